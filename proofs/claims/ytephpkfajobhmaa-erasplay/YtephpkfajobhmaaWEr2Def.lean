/-
  WEr2Def and what follows it.
-/
import Derived.Test.YtephpkfajobhmaaWErBDef
/-
  ErasPlay: steps: definitions.
-/
set_option linter.unusedSimpArgs false
set_option linter.unusedVariables false
namespace Go.Proofs.Ytephpkfajobhmaa
open Go.Ev

noncomputable def err2aH (th hi nw e : Int) (dn : Bool) (S : MS) (n l : Nat) (g : Nat → Nat → AV) (s2 : Int) (L2 : LS) : List (Nat × AO) := [(1, .cells 5 [.int .i64 2, .sym .i64 th, .sym .u64 hi, .sym .u64 nw, .symb dn]), (2, .cells 6 [.int .i64 2, .sym .i64 th, .int .i64 1, .sym .u64 hi, .symb dn, .sym .u64 e]), (3, .cells 9 (.map 4 :: lsL S.st S.L)), (4, .map 26 S.M), (5, .cells 9 (.ss 4 6 0 n none :: lsL s2 L2)), (6, .arr 4 wSh false l g)]
noncomputable def err2aR (th hi nw e : Int) (dn : Bool) (S : MS) (n l : Nat) (g : Nat → Nat → AV) (s2 : Int) (L2 : LS) : LR := ⟨6, .bool true, [(1, .cells 5 [.int .i64 0, .sym .i64 th, .sym .u64 hi, .sym .u64 (IntKind.u64.wrap (mget S.M (key 2 0 0) + 1)), .symb true]), (2, .cells 6 [.int .i64 2, .sym .i64 th, .int .i64 0, .sym .u64 hi, .symb true, .sym .u64 (mget S.M (key 2 0 0))]), (3, .cells 9 (.map 4 :: lsL (mLoad S 2 0 0).st (mLoad S 2 0 0).L)), (4, .map 26 (mLoad S 2 0 0).M), (5, .cells 9 (.ss 4 7 0 (rLoad (mkR n g s2 L2) 2 0 0).D.n none :: lsL (rLoad (mkR n g s2 L2) 2 0 0).st (rLoad (mkR n g s2 L2) 2 0 0).L)), (7, .arr 4 wSh false (rLoad (mkR n g s2 L2) 2 0 0).D.n (wdF (rLoad (mkR n g s2 L2) 2 0 0).D.W))], 1, [1, 2, 3, 4, 5, 6], [n ≤ l, n ≤ 100000, Both S (mkR n g s2 L2), ∀ k, 0 ≤ mget S.M k ∧ mget S.M k < 18446744073709551616, (IntKind.u64.wrap (mget S.M (key 2 0 0) + 1)) = hi]⟩
end Go.Proofs.Ytephpkfajobhmaa

/-
  ErasPlay: steps.
-/
set_option linter.unusedSimpArgs false
set_option linter.unusedVariables false
namespace Go.Proofs.Ytephpkfajobhmaa
open Go.Ev
theorem err2a_1 (th hi nw e : Int) (dn : Bool) (S : MS) (n l : Nat) (g : Nat → Nat → AV) (s2 : Int) (L2 : LS) : callB EEr 3000 71 [AV.agg [AV.nilp, AV.nilp, AV.ptr 1 0 0, AV.nilp, AV.ptr 2 0 0], AV.agg [AV.ptr 3 0 0, AV.ptr 5 0 0]] (err2aH th hi nw e dn S n l g s2 L2) (err2aR th hi nw e dn S n l g s2 L2) [(7, Src.nm 6)] [Hint.b true, Hint.node [(4, [Hint.b true])], Hint.b true, Hint.node [], Hint.b true] =
 some ([th = th,
 hi = hi,
 IntKind.u64.wrap (mget S.M (key 2 0 0) + 1) = IntKind.u64.wrap (mget S.M (key 2 0 0) + 1),
 true = true,
 th = th,
 hi = hi,
 true = true,
 dWord (dOf n g) 2 0 0 = mget S.M (key 2 0 0),
 IntKind.i64.wrap (S.st + 1) = (mLoad S 2 0 0).st,
 (1 : Int) = 1,
 (2 : Int) = 2,
 (0 : Int) = 0,
 (0 : Int) = 0,
 mget S.M (key 2 0 0) = (mLoad S 2 0 0).L.w,
 mget S.M (key 2 0 0) = (mLoad S 2 0 0).L.i,
 false = (mLoad S 2 0 0).L.d,
 ∀ (k : List Int), S.M k = (mLoad S 2 0 0).M k,
 (0 : Nat) = 0,
 n = (rLoad (mkR n g s2 L2) 2 0 0).D.n,
 (none : Option Nat) = none,
 IntKind.i64.wrap (s2 + 1) = (rLoad (mkR n g s2 L2) 2 0 0).st,
 (1 : Int) = 1,
 (2 : Int) = 2,
 (0 : Int) = 0,
 (0 : Int) = 0,
 dWord (dOf n g) 2 0 0 = (rLoad (mkR n g s2 L2) 2 0 0).L.w,
 dWord (dOf n g) 2 0 0 = (rLoad (mkR n g s2 L2) 2 0 0).L.i,
 false = (rLoad (mkR n g s2 L2) 2 0 0).L.d,
 false = false,
 (rLoad (mkR n g s2 L2) 2 0 0).D.n ≤ l,
 wdF (rLoad (mkR n g s2 L2) 2 0 0).D.W = g ∧ plainSh wSh = true ∨ ∀ (i : Nat), i < (rLoad (mkR n g s2 L2) 2 0 0).D.n → rowOb wSh 0 (g i) (wdF (rLoad (mkR n g s2 L2) 2 0 0).D.W i),
 (hi == hi) = true,
 (IntKind.u64.wrap (mget S.M (key 2 0 0) + 1) == hi) = true,
 (IntKind.u64.wrap (dWord (dOf n g) 2 0 0 + 1) == hi) = true,
 n ≤ l,
 n ≤ 1000000]) := by kernel_rfl
theorem err2a_loc (th hi nw e : Int) (dn : Bool) (S : MS) (n l : Nat) (g : Nat → Nat → AV) (s2 : Int) (L2 : LS) : LocOk Try.prog 71 [.agg [.nilp, .nilp, .ptr 1 0 0, .nilp, .ptr 2 0 0], .agg [.ptr 3 0 0, .ptr 5 0 0]] (err2aH th hi nw e dn S n l g s2 L2) (err2aR th hi nw e dn S n l g s2 L2) := by
  refine loc_of_call EEr_ok (fun hp => ?_)
  have hl : n ≤ l := hp _ (List.mem_cons_self ..)
  have hm : n ≤ 100000 := hp _ (List.mem_cons_of_mem _ (List.mem_cons_self ..))
  have hb : Both S (mkR n g s2 L2) := hp _ (List.mem_cons_of_mem _ (List.mem_cons_of_mem _ (List.mem_cons_self ..)))
  have hu : ∀ k, 0 ≤ mget S.M k ∧ mget S.M k < 18446744073709551616 := hp _ (List.mem_cons_of_mem _ (List.mem_cons_of_mem _ (List.mem_cons_of_mem _ (List.mem_cons_self ..))))
  have hc : (IntKind.u64.wrap (mget S.M (key 2 0 0) + 1)) = hi := hp _ (List.mem_cons_of_mem _ (List.mem_cons_of_mem _ (List.mem_cons_of_mem _ (List.mem_cons_of_mem _ (List.mem_cons_self ..)))))
  clear hp
  have w1 : dWord (dOf n g) 2 0 0 = mget S.M (key 2 0 0) := (hb.agr _ _ _).symm
  have hcT : (IntKind.u64.wrap (mget S.M (key 2 0 0) + 1) == hi) = true := by rw [hc]; simp
  refine ⟨3000, _, _, _, err2a_1 .., (ob_cons rfl (ob_cons rfl (ob_cons rfl (ob_cons rfl (ob_cons rfl (ob_cons rfl (ob_cons rfl (ob_cons ?_ (ob_cons ?_ (ob_cons rfl (ob_cons rfl (ob_cons rfl (ob_cons rfl (ob_cons ?_ (ob_cons ?_ (ob_cons ?_ (ob_cons ?_ (ob_cons rfl (ob_cons ?_ (ob_cons rfl (ob_cons ?_ (ob_cons rfl (ob_cons rfl (ob_cons rfl (ob_cons rfl (ob_cons ?_ (ob_cons ?_ (ob_cons ?_ (ob_cons rfl (ob_cons ?_ (ob_cons ?_ (ob_cons ?_ (ob_cons ?_ (ob_cons ?_ (ob_cons ?_ (ob_cons ?_ ob_nil))))))))))))))))))))))))))))))))))))⟩
  · assumption
  · exact rfl
  · exact rfl
  · exact rfl
  · exact rfl
  · exact fun _ => rfl
  · exact rfl
  · exact rfl
  · exact rfl
  · exact rfl
  · exact rfl
  · assumption
  · exact .inr (fun i hi => row_wd rfl)
  · (simp; done)
  · assumption
  · (rw [w1]; exact hcT)
  · assumption
  · omega
end Go.Proofs.Ytephpkfajobhmaa

/-
  ErasPlay: steps: definitions.
-/
set_option linter.unusedSimpArgs false
set_option linter.unusedVariables false
namespace Go.Proofs.Ytephpkfajobhmaa
open Go.Ev

noncomputable def err2bH (th hi nw e : Int) (dn : Bool) (S : MS) (n l : Nat) (g : Nat → Nat → AV) (s2 : Int) (L2 : LS) : List (Nat × AO) := [(1, .cells 5 [.int .i64 2, .sym .i64 th, .sym .u64 hi, .sym .u64 nw, .symb dn]), (2, .cells 6 [.int .i64 2, .sym .i64 th, .int .i64 1, .sym .u64 hi, .symb dn, .sym .u64 e]), (3, .cells 9 (.map 4 :: lsL S.st S.L)), (4, .map 26 S.M), (5, .cells 9 (.ss 4 6 0 n none :: lsL s2 L2)), (6, .arr 4 wSh false l g)]
noncomputable def err2bR (th hi nw e : Int) (dn : Bool) (S : MS) (n l : Nat) (g : Nat → Nat → AV) (s2 : Int) (L2 : LS) : LR := ⟨6, .bool true, [(1, .cells 5 [.int .i64 1, .sym .i64 th, .sym .u64 hi, .sym .u64 (IntKind.u64.wrap (mget S.M (key 2 0 0) + 1)), .symb dn]), (2, .cells 6 [.int .i64 2, .sym .i64 th, .int .i64 2, .sym .u64 hi, .symb dn, .sym .u64 (mget S.M (key 2 0 0))]), (3, .cells 9 (.map 4 :: lsL (mLoad S 2 0 0).st (mLoad S 2 0 0).L)), (4, .map 26 (mLoad S 2 0 0).M), (5, .cells 9 (.ss 4 7 0 (rLoad (mkR n g s2 L2) 2 0 0).D.n none :: lsL (rLoad (mkR n g s2 L2) 2 0 0).st (rLoad (mkR n g s2 L2) 2 0 0).L)), (7, .arr 4 wSh false (rLoad (mkR n g s2 L2) 2 0 0).D.n (wdF (rLoad (mkR n g s2 L2) 2 0 0).D.W))], 1, [1, 2, 3, 4, 5, 6], [n ≤ l, n ≤ 100000, Both S (mkR n g s2 L2), ∀ k, 0 ≤ mget S.M k ∧ mget S.M k < 18446744073709551616, (IntKind.u64.wrap (mget S.M (key 2 0 0) + 1)) ≠ hi]⟩
noncomputable def err1H (th hi nw e : Int) (dn : Bool) (S : MS) (n l : Nat) (g : Nat → Nat → AV) (s2 : Int) (L2 : LS) : List (Nat × AO) := [(1, .cells 5 [.int .i64 1, .sym .i64 th, .sym .u64 hi, .sym .u64 (IntKind.u64.wrap (e + 1)), .symb dn]), (2, .cells 6 [.int .i64 2, .sym .i64 th, .int .i64 2, .sym .u64 hi, .symb dn, .sym .u64 e]), (3, .cells 9 (.map 4 :: lsL S.st S.L)), (4, .map 26 S.M), (5, .cells 9 (.ss 4 6 0 n none :: lsL s2 L2)), (6, .arr 4 wSh false l g)]
noncomputable def err1R (th hi nw e : Int) (dn : Bool) (S : MS) (n l : Nat) (g : Nat → Nat → AV) (s2 : Int) (L2 : LS) : LR := ⟨6, .bool true, [(1, .cells 5 [.int .i64 0, .sym .i64 th, .sym .u64 (IntKind.u64.wrap (e + 1)), .sym .u64 (IntKind.u64.wrap (e + 1)), .symb dn]), (2, .cells 6 [.int .i64 2, .sym .i64 th, .int .i64 0, .sym .u64 (IntKind.u64.wrap (e + 1)), .symb dn, .sym .u64 e]), (3, .cells 9 (.map 4 :: lsL (mStore S 8 th 5 (IntKind.u64.wrap (e + 1))).st (mStore S 8 th 5 (IntKind.u64.wrap (e + 1))).L)), (4, .map 26 (mStore S 8 th 5 (IntKind.u64.wrap (e + 1))).M), (5, .cells 9 (.ss 4 7 0 (rStore (mkR n g s2 L2) 8 th 5 (IntKind.u64.wrap (e + 1))).D.n none :: lsL (rStore (mkR n g s2 L2) 8 th 5 (IntKind.u64.wrap (e + 1))).st (rStore (mkR n g s2 L2) 8 th 5 (IntKind.u64.wrap (e + 1))).L)), (7, .arr 4 wSh false (rStore (mkR n g s2 L2) 8 th 5 (IntKind.u64.wrap (e + 1))).D.n (wdF (rStore (mkR n g s2 L2) 8 th 5 (IntKind.u64.wrap (e + 1))).D.W))], 1, [1, 2, 3, 4, 5, 6], [n ≤ l, n ≤ 100000, Both S (mkR n g s2 L2), ∀ k, 0 ≤ mget S.M k ∧ mget S.M k < 18446744073709551616]⟩
end Go.Proofs.Ytephpkfajobhmaa
