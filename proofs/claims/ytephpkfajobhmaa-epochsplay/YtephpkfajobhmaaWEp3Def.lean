/-
  WEp3Def and what follows it.
-/
import Derived.Test.YtephpkfajobhmaaWEpBDef
/-
  EpochsPlay: steps: definitions.
-/
set_option linter.unusedSimpArgs false
set_option linter.unusedVariables false
namespace Go.Proofs.Ytephpkfajobhmaa
open Go.Ev

noncomputable def epa3cH (e th t2 b : Int) (mv : Bool) (S : MS) (n l : Nat) (g : Nat → Nat → AV) (s2 : Int) (L2 : LS) : List (Nat × AO) := [(1, .cells 5 [.int .i64 3, .sym .u64 e, .sym .i64 th, .sym .i64 (4 * b), .symb mv]), (2, .cells 6 [.int .i64 2, .sym .i64 th, .int .i64 3, .symb mv, .sym .u64 e, .sym .u64 b]), (3, .cells 9 (.map 4 :: lsL S.st S.L)), (4, .map 26 S.M), (5, .cells 9 (.ss 4 6 0 n none :: lsL s2 L2)), (6, .arr 4 wSh false l g)]
noncomputable def epa3cR (e th t2 b : Int) (mv : Bool) (S : MS) (n l : Nat) (g : Nat → Nat → AV) (s2 : Int) (L2 : LS) : LR := ⟨6, .bool true, [(1, .cells 5 [.int .i64 3, .sym .u64 e, .sym .i64 (th + 1), .sym .i64 (4 * b), .symb mv]), (2, .cells 6 [.int .i64 2, .sym .i64 (th + 1), .int .i64 3, .symb mv, .sym .u64 e, .sym .u64 b]), (3, .cells 9 (.map 4 :: lsL (mLoad S 8 th 3).st (mLoad S 8 th 3).L)), (4, .map 26 (mLoad S 8 th 3).M), (5, .cells 9 (.ss 4 7 0 (rLoad (mkR n g s2 L2) 8 th 3).D.n none :: lsL (rLoad (mkR n g s2 L2) 8 th 3).st (rLoad (mkR n g s2 L2) 8 th 3).L)), (7, .arr 4 wSh false (rLoad (mkR n g s2 L2) 8 th 3).D.n (wdF (rLoad (mkR n g s2 L2) 8 th 3).D.W))], 1, [1, 2, 3, 4, 5, 6], [n ≤ l, n ≤ 100000, Both S (mkR n g s2 L2), ∀ k, 0 ≤ mget S.M k ∧ mget S.M k < 18446744073709551616, 0 ≤ e ∧ e < 18446744073709551616, 0 ≤ th ∧ th < 4 * b ∧ b ≤ 4, mget S.M (key 8 th 3) % 2 = 1 ∧ mget S.M (key 8 th 3) = inE e ∧ th + 1 < 4 * b]⟩
end Go.Proofs.Ytephpkfajobhmaa

/-
  EpochsPlay: steps.
-/
set_option linter.unusedSimpArgs false
set_option linter.unusedVariables false
namespace Go.Proofs.Ytephpkfajobhmaa
open Go.Ev
theorem epa3c_1 (e th t2 b : Int) (mv : Bool) (S : MS) (n l : Nat) (g : Nat → Nat → AV) (s2 : Int) (L2 : LS) : callB EEp 3000 65 [AV.agg [AV.nilp, AV.nilp, AV.ptr 1 0 0, AV.ptr 2 0 0], AV.agg [AV.ptr 3 0 0, AV.ptr 5 0 0]] (epa3cH e th t2 b mv S n l g s2 L2) (epa3cR e th t2 b mv S n l g s2 L2) [(7, Src.nm 6)] [Hint.b true, Hint.b false, Hint.b false, Hint.node [(4, [Hint.b true, Hint.b false, Hint.b false])]] =
 some ([((mv == mv) == true) = true,
 e = e,
 IntKind.i64.wrap (th + 1) = th + 1,
 4 * b = 4 * b,
 mv = mv,
 IntKind.i64.wrap (th + 1) = th + 1,
 mv = mv,
 e = e,
 b = b,
 IntKind.i64.wrap (S.st + 1) = (mLoad S 8 th 3).st,
 (1 : Int) = 1,
 (8 : Int) = 8,
 th = (mLoad S 8 th 3).L.a,
 (3 : Int) = 3,
 mget S.M (key 8 th 3) = (mLoad S 8 th 3).L.w,
 mget S.M (key 8 th 3) = (mLoad S 8 th 3).L.i,
 false = (mLoad S 8 th 3).L.d,
 ∀ (k : List Int), S.M k = (mLoad S 8 th 3).M k,
 (0 : Nat) = 0,
 n = (rLoad (mkR n g s2 L2) 8 th 3).D.n,
 (none : Option Nat) = none,
 IntKind.i64.wrap (s2 + 1) = (rLoad (mkR n g s2 L2) 8 th 3).st,
 (1 : Int) = 1,
 (8 : Int) = 8,
 th = (rLoad (mkR n g s2 L2) 8 th 3).L.a,
 (3 : Int) = 3,
 dWord (dOf n g) 8 th 3 = (rLoad (mkR n g s2 L2) 8 th 3).L.w,
 dWord (dOf n g) 8 th 3 = (rLoad (mkR n g s2 L2) 8 th 3).L.i,
 false = (rLoad (mkR n g s2 L2) 8 th 3).L.d,
 false = false,
 (rLoad (mkR n g s2 L2) 8 th 3).D.n ≤ l,
 wdF (rLoad (mkR n g s2 L2) 8 th 3).D.W = g ∧ plainSh wSh = true ∨ ∀ (i : Nat), i < (rLoad (mkR n g s2 L2) 8 th 3).D.n → rowOb wSh 0 (g i) (wdF (rLoad (mkR n g s2 L2) 8 th 3).D.W i),
 decide (IntKind.i64.wrap (th + 1) ≥ 4 * b) = false,
 (mget S.M (key 8 th 3) != IntKind.u64.wrap ↑(BitVec.ofInt 64 (IntKind.u64.wrap (e * 2)) ||| BitVec.ofInt 64 1).toNat) = false,
 (IntKind.u64.wrap ↑(BitVec.ofInt 64 (mget S.M (key 8 th 3)) &&& BitVec.ofInt 64 1).toNat == 1) = true,
 (IntKind.i64.wrap (th + 1) == IntKind.i64.wrap (4 * IntKind.i64.wrap b)) = false,
 (dWord (dOf n g) 8 th 3 != IntKind.u64.wrap (IntKind.u64.wrap (2 * e) + 1)) = false,
 ((dWord (dOf n g) 8 th 3).tmod 2 == 1) = true,
 n ≤ l,
 n ≤ 1000000]) := by kernel_rfl
theorem epa3c_loc (e th t2 b : Int) (mv : Bool) (S : MS) (n l : Nat) (g : Nat → Nat → AV) (s2 : Int) (L2 : LS) : LocOk Try.prog 65 [.agg [.nilp, .nilp, .ptr 1 0 0, .ptr 2 0 0], .agg [.ptr 3 0 0, .ptr 5 0 0]] (epa3cH e th t2 b mv S n l g s2 L2) (epa3cR e th t2 b mv S n l g s2 L2) := by
  refine loc_of_call EEp_ok (fun hp => ?_)
  have hl : n ≤ l := hp _ (List.mem_cons_self ..)
  have hm : n ≤ 100000 := hp _ (List.mem_cons_of_mem _ (List.mem_cons_self ..))
  have hb : Both S (mkR n g s2 L2) := hp _ (List.mem_cons_of_mem _ (List.mem_cons_of_mem _ (List.mem_cons_self ..)))
  have hu : ∀ k, 0 ≤ mget S.M k ∧ mget S.M k < 18446744073709551616 := hp _ (List.mem_cons_of_mem _ (List.mem_cons_of_mem _ (List.mem_cons_of_mem _ (List.mem_cons_self ..))))
  have he : 0 ≤ e ∧ e < 18446744073709551616 := hp _ (List.mem_cons_of_mem _ (List.mem_cons_of_mem _ (List.mem_cons_of_mem _ (List.mem_cons_of_mem _ (List.mem_cons_self ..)))))
  have ht : 0 ≤ th ∧ th < 4 * b ∧ b ≤ 4 := hp _ (List.mem_cons_of_mem _ (List.mem_cons_of_mem _ (List.mem_cons_of_mem _ (List.mem_cons_of_mem _ (List.mem_cons_of_mem _ (List.mem_cons_self ..))))))
  have hc : mget S.M (key 8 th 3) % 2 = 1 ∧ mget S.M (key 8 th 3) = inE e ∧ th + 1 < 4 * b := hp _ (List.mem_cons_of_mem _ (List.mem_cons_of_mem _ (List.mem_cons_of_mem _ (List.mem_cons_of_mem _ (List.mem_cons_of_mem _ (List.mem_cons_of_mem _ (List.mem_cons_self ..)))))))
  clear hp
  have hw := hu (key 8 th 3)
  have w1 : dWord (dOf n g) 8 th 3 = mget S.M (key 8 th 3) := (hb.agr _ _ _).symm
  have w2 := and_1 hw.1 hw.2
  have w3 : (mget S.M (key 8 th 3)).tmod 2 = mget S.M (key 8 th 3) % 2 := Int.tmod_eq_emod_of_nonneg hw.1
  have w4 : IntKind.u64.wrap (mget S.M (key 8 th 3) % 2) = mget S.M (key 8 th 3) % 2 := u64w (by omega) (by omega)
  have w5 : IntKind.i64.wrap b = b := i64w (by omega) (by omega)
  have w6 : IntKind.i64.wrap (4 * b) = 4 * b := i64w (by omega) (by omega)
  have w7 : IntKind.i64.wrap (th + 1) = th + 1 := i64w (by omega) (by omega)
  have w8 := in_raw he.1 he.2
  have w9 : IntKind.u64.wrap (IntKind.u64.wrap (2 * e) + 1) = inE e := rfl
  refine ⟨3000, _, _, _, epa3c_1 .., (ob_cons ?_ (ob_cons rfl (ob_cons ?_ (ob_cons rfl (ob_cons rfl (ob_cons ?_ (ob_cons rfl (ob_cons rfl (ob_cons rfl (ob_cons ?_ (ob_cons rfl (ob_cons rfl (ob_cons ?_ (ob_cons rfl (ob_cons ?_ (ob_cons ?_ (ob_cons ?_ (ob_cons ?_ (ob_cons rfl (ob_cons ?_ (ob_cons rfl (ob_cons ?_ (ob_cons rfl (ob_cons rfl (ob_cons ?_ (ob_cons rfl (ob_cons ?_ (ob_cons ?_ (ob_cons ?_ (ob_cons rfl (ob_cons ?_ (ob_cons ?_ (ob_cons ?_ (ob_cons ?_ (ob_cons ?_ (ob_cons ?_ (ob_cons ?_ (ob_cons ?_ (ob_cons ?_ (ob_cons ?_ ob_nil))))))))))))))))))))))))))))))))))))))))⟩
  · (simp; done)
  · omega
  · omega
  · exact rfl
  · exact rfl
  · exact rfl
  · exact rfl
  · exact rfl
  · exact fun _ => rfl
  · exact rfl
  · exact rfl
  · exact rfl
  · exact rfl
  · exact rfl
  · exact rfl
  · exact hl
  · exact .inr (fun i hi => row_wd rfl)
  · (simp only [w1, w2, w3, w4, w5, w6, w7, w8, w9]; first | done | omega | exact decide_eq_true (by omega) | exact decide_eq_false (by omega) | (simp; omega) | (simp [hc]; done) | (simp [hc]; omega))
  · (simp only [w1, w2, w3, w4, w5, w6, w7, w8, w9]; first | done | omega | exact decide_eq_true (by omega) | exact decide_eq_false (by omega) | (simp; omega) | (simp [hc]; done) | (simp [hc]; omega))
  · (simp only [w1, w2, w3, w4, w5, w6, w7, w8, w9]; first | done | omega | exact decide_eq_true (by omega) | exact decide_eq_false (by omega) | (simp; omega) | (simp [hc]; done) | (simp [hc]; omega))
  · (simp only [w1, w2, w3, w4, w5, w6, w7, w8, w9]; first | done | omega | exact decide_eq_true (by omega) | exact decide_eq_false (by omega) | (simp; omega) | (simp [hc]; done) | (simp [hc]; omega))
  · (simp only [w1, w2, w3, w4, w5, w6, w7, w8, w9]; first | done | omega | exact decide_eq_true (by omega) | exact decide_eq_false (by omega) | (simp; omega) | (simp [hc]; done) | (simp [hc]; omega))
  · (simp only [w1, w2, w3, w4, w5, w6, w7, w8, w9]; first | done | omega | exact decide_eq_true (by omega) | exact decide_eq_false (by omega) | (simp; omega) | (simp [hc]; done) | (simp [hc]; omega))
  · exact hl
  · omega
end Go.Proofs.Ytephpkfajobhmaa

/-
  EpochsPlay: steps: definitions.
-/
set_option linter.unusedSimpArgs false
set_option linter.unusedVariables false
namespace Go.Proofs.Ytephpkfajobhmaa
open Go.Ev

noncomputable def epa3dH (e th t2 b : Int) (mv : Bool) (S : MS) (n l : Nat) (g : Nat → Nat → AV) (s2 : Int) (L2 : LS) : List (Nat × AO) := [(1, .cells 5 [.int .i64 3, .sym .u64 e, .sym .i64 th, .sym .i64 (4 * b), .symb mv]), (2, .cells 6 [.int .i64 2, .sym .i64 th, .int .i64 3, .symb mv, .sym .u64 e, .sym .u64 b]), (3, .cells 9 (.map 4 :: lsL S.st S.L)), (4, .map 26 S.M), (5, .cells 9 (.ss 4 6 0 n none :: lsL s2 L2)), (6, .arr 4 wSh false l g)]
noncomputable def epa3dR (e th t2 b : Int) (mv : Bool) (S : MS) (n l : Nat) (g : Nat → Nat → AV) (s2 : Int) (L2 : LS) : LR := ⟨6, .bool true, [(1, .cells 5 [.int .i64 4, .sym .u64 e, .sym .i64 (th + 1), .sym .i64 (4 * b), .symb mv]), (2, .cells 6 [.int .i64 2, .sym .i64 (th + 1), .int .i64 4, .symb mv, .sym .u64 e, .sym .u64 b]), (3, .cells 9 (.map 4 :: lsL (mLoad S 8 th 3).st (mLoad S 8 th 3).L)), (4, .map 26 (mLoad S 8 th 3).M), (5, .cells 9 (.ss 4 7 0 (rLoad (mkR n g s2 L2) 8 th 3).D.n none :: lsL (rLoad (mkR n g s2 L2) 8 th 3).st (rLoad (mkR n g s2 L2) 8 th 3).L)), (7, .arr 4 wSh false (rLoad (mkR n g s2 L2) 8 th 3).D.n (wdF (rLoad (mkR n g s2 L2) 8 th 3).D.W))], 1, [1, 2, 3, 4, 5, 6], [n ≤ l, n ≤ 100000, Both S (mkR n g s2 L2), ∀ k, 0 ≤ mget S.M k ∧ mget S.M k < 18446744073709551616, 0 ≤ e ∧ e < 18446744073709551616, 0 ≤ th ∧ th < 4 * b ∧ b ≤ 4, mget S.M (key 8 th 3) % 2 = 0 ∧ th + 1 = 4 * b]⟩
noncomputable def epa3eH (e th t2 b : Int) (mv : Bool) (S : MS) (n l : Nat) (g : Nat → Nat → AV) (s2 : Int) (L2 : LS) : List (Nat × AO) := [(1, .cells 5 [.int .i64 3, .sym .u64 e, .sym .i64 th, .sym .i64 (4 * b), .symb mv]), (2, .cells 6 [.int .i64 2, .sym .i64 th, .int .i64 3, .symb mv, .sym .u64 e, .sym .u64 b]), (3, .cells 9 (.map 4 :: lsL S.st S.L)), (4, .map 26 S.M), (5, .cells 9 (.ss 4 6 0 n none :: lsL s2 L2)), (6, .arr 4 wSh false l g)]
noncomputable def epa3eR (e th t2 b : Int) (mv : Bool) (S : MS) (n l : Nat) (g : Nat → Nat → AV) (s2 : Int) (L2 : LS) : LR := ⟨6, .bool true, [(1, .cells 5 [.int .i64 3, .sym .u64 e, .sym .i64 (th + 1), .sym .i64 (4 * b), .symb mv]), (2, .cells 6 [.int .i64 2, .sym .i64 (th + 1), .int .i64 3, .symb mv, .sym .u64 e, .sym .u64 b]), (3, .cells 9 (.map 4 :: lsL (mLoad S 8 th 3).st (mLoad S 8 th 3).L)), (4, .map 26 (mLoad S 8 th 3).M), (5, .cells 9 (.ss 4 7 0 (rLoad (mkR n g s2 L2) 8 th 3).D.n none :: lsL (rLoad (mkR n g s2 L2) 8 th 3).st (rLoad (mkR n g s2 L2) 8 th 3).L)), (7, .arr 4 wSh false (rLoad (mkR n g s2 L2) 8 th 3).D.n (wdF (rLoad (mkR n g s2 L2) 8 th 3).D.W))], 1, [1, 2, 3, 4, 5, 6], [n ≤ l, n ≤ 100000, Both S (mkR n g s2 L2), ∀ k, 0 ≤ mget S.M k ∧ mget S.M k < 18446744073709551616, 0 ≤ e ∧ e < 18446744073709551616, 0 ≤ th ∧ th < 4 * b ∧ b ≤ 4, mget S.M (key 8 th 3) % 2 = 0 ∧ th + 1 < 4 * b]⟩
end Go.Proofs.Ytephpkfajobhmaa
