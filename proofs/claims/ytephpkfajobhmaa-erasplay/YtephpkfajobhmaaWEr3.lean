/-
  ErasPlay: steps.
-/
import Derived.Test.YtephpkfajobhmaaWEr2Def
set_option linter.unusedSimpArgs false
set_option linter.unusedVariables false
namespace Go.Proofs.Ytephpkfajobhmaa
open Go.Ev
theorem err2b_2 (th hi nw e : Int) (dn : Bool) (S : MS) (n l : Nat) (g : Nat → Nat → AV) (s2 : Int) (L2 : LS) : callB EEr 3000 71 [AV.agg [AV.nilp, AV.nilp, AV.ptr 1 0 0, AV.nilp, AV.ptr 2 0 0], AV.agg [AV.ptr 3 0 0, AV.ptr 5 0 0]] (err2bH th hi nw e dn S n l g s2 L2) (err2bR th hi nw e dn S n l g s2 L2) [(7, Src.nm 6)] [Hint.b false, Hint.node [(4, [Hint.b false])], Hint.b false, Hint.node [], Hint.b true] =
 some ([((dn == dn) == true) = true,
 th = th,
 hi = hi,
 IntKind.u64.wrap (mget S.M (key 2 0 0) + 1) = IntKind.u64.wrap (mget S.M (key 2 0 0) + 1),
 dn = dn,
 th = th,
 hi = hi,
 dn = dn,
 dWord (dOf n g) 2 0 0 = mget S.M (key 2 0 0),
 IntKind.i64.wrap (S.st + 1) = (mLoad S 2 0 0).st,
 (1 : Int) = 1,
 (2 : Int) = 2,
 (0 : Int) = 0,
 (0 : Int) = 0,
 mget S.M (key 2 0 0) = (mLoad S 2 0 0).L.w,
 mget S.M (key 2 0 0) = (mLoad S 2 0 0).L.i,
 false = (mLoad S 2 0 0).L.d,
 ∀ (k : List Int), S.M k = (mLoad S 2 0 0).M k,
 (0 : Nat) = 0,
 n = (rLoad (mkR n g s2 L2) 2 0 0).D.n,
 (none : Option Nat) = none,
 IntKind.i64.wrap (s2 + 1) = (rLoad (mkR n g s2 L2) 2 0 0).st,
 (1 : Int) = 1,
 (2 : Int) = 2,
 (0 : Int) = 0,
 (0 : Int) = 0,
 dWord (dOf n g) 2 0 0 = (rLoad (mkR n g s2 L2) 2 0 0).L.w,
 dWord (dOf n g) 2 0 0 = (rLoad (mkR n g s2 L2) 2 0 0).L.i,
 false = (rLoad (mkR n g s2 L2) 2 0 0).L.d,
 false = false,
 (rLoad (mkR n g s2 L2) 2 0 0).D.n ≤ l,
 wdF (rLoad (mkR n g s2 L2) 2 0 0).D.W = g ∧ plainSh wSh = true ∨ ∀ (i : Nat), i < (rLoad (mkR n g s2 L2) 2 0 0).D.n → rowOb wSh 0 (g i) (wdF (rLoad (mkR n g s2 L2) 2 0 0).D.W i),
 (hi == hi) = true,
 (IntKind.u64.wrap (mget S.M (key 2 0 0) + 1) == hi) = false,
 (IntKind.u64.wrap (dWord (dOf n g) 2 0 0 + 1) == hi) = false,
 n ≤ l,
 n ≤ 1000000]) := by kernel_rfl
theorem err2b_loc (th hi nw e : Int) (dn : Bool) (S : MS) (n l : Nat) (g : Nat → Nat → AV) (s2 : Int) (L2 : LS) : LocOk Try.prog 71 [.agg [.nilp, .nilp, .ptr 1 0 0, .nilp, .ptr 2 0 0], .agg [.ptr 3 0 0, .ptr 5 0 0]] (err2bH th hi nw e dn S n l g s2 L2) (err2bR th hi nw e dn S n l g s2 L2) := by
  refine loc_of_call EEr_ok (fun hp => ?_)
  have hl : n ≤ l := hp _ (List.mem_cons_self ..)
  have hm : n ≤ 100000 := hp _ (List.mem_cons_of_mem _ (List.mem_cons_self ..))
  have hb : Both S (mkR n g s2 L2) := hp _ (List.mem_cons_of_mem _ (List.mem_cons_of_mem _ (List.mem_cons_self ..)))
  have hu : ∀ k, 0 ≤ mget S.M k ∧ mget S.M k < 18446744073709551616 := hp _ (List.mem_cons_of_mem _ (List.mem_cons_of_mem _ (List.mem_cons_of_mem _ (List.mem_cons_self ..))))
  have hc : (IntKind.u64.wrap (mget S.M (key 2 0 0) + 1)) ≠ hi := hp _ (List.mem_cons_of_mem _ (List.mem_cons_of_mem _ (List.mem_cons_of_mem _ (List.mem_cons_of_mem _ (List.mem_cons_self ..)))))
  clear hp
  have w1 : dWord (dOf n g) 2 0 0 = mget S.M (key 2 0 0) := (hb.agr _ _ _).symm
  have hcF : (IntKind.u64.wrap (mget S.M (key 2 0 0) + 1) == hi) = false := by simpa using hc
  refine ⟨3000, _, _, _, err2b_2 .., (ob_cons ?_ (ob_cons rfl (ob_cons rfl (ob_cons rfl (ob_cons rfl (ob_cons rfl (ob_cons rfl (ob_cons rfl (ob_cons ?_ (ob_cons ?_ (ob_cons rfl (ob_cons rfl (ob_cons rfl (ob_cons rfl (ob_cons ?_ (ob_cons ?_ (ob_cons ?_ (ob_cons ?_ (ob_cons rfl (ob_cons ?_ (ob_cons rfl (ob_cons ?_ (ob_cons rfl (ob_cons rfl (ob_cons rfl (ob_cons rfl (ob_cons ?_ (ob_cons ?_ (ob_cons ?_ (ob_cons rfl (ob_cons ?_ (ob_cons ?_ (ob_cons ?_ (ob_cons ?_ (ob_cons ?_ (ob_cons ?_ (ob_cons ?_ ob_nil)))))))))))))))))))))))))))))))))))))⟩
  · (simp; done)
  · assumption
  · exact rfl
  · exact rfl
  · exact rfl
  · exact rfl
  · exact fun _ => rfl
  · exact rfl
  · exact rfl
  · exact rfl
  · exact rfl
  · exact rfl
  · assumption
  · exact .inr (fun i hi => row_wd rfl)
  · (simp; done)
  · assumption
  · (rw [w1]; exact hcF)
  · assumption
  · omega
theorem err1_1 (th hi nw e : Int) (dn : Bool) (S : MS) (n l : Nat) (g : Nat → Nat → AV) (s2 : Int) (L2 : LS) : callB EEr 3000 71 [AV.agg [AV.nilp, AV.nilp, AV.ptr 1 0 0, AV.nilp, AV.ptr 2 0 0], AV.agg [AV.ptr 3 0 0, AV.ptr 5 0 0]] (err1H th hi nw e dn S n l g s2 L2) (err1R th hi nw e dn S n l g s2 L2) [(7, Src.nm 1432108390954562068130770492362074629094780895143840845398939973542058535927045117761430665392583068753512924305807531066532549738824859460831230820357)] [Hint.node [], Hint.node [], Hint.node [], Hint.b true] =
 some ([((dn == dn) == true) = true,
 th = th,
 IntKind.u64.wrap (e + 1) = IntKind.u64.wrap (e + 1),
 IntKind.u64.wrap (e + 1) = IntKind.u64.wrap (e + 1),
 dn = dn,
 th = th,
 IntKind.u64.wrap (e + 1) = IntKind.u64.wrap (e + 1),
 dn = dn,
 e = e,
 IntKind.i64.wrap (S.st + 1) = (mStore S 8 th 5 (IntKind.u64.wrap (e + 1))).st,
 (2 : Int) = 2,
 (8 : Int) = 8,
 th = (mStore S 8 th 5 (IntKind.u64.wrap (e + 1))).L.a,
 (5 : Int) = 5,
 mget S.M (key 8 th 5) = (mStore S 8 th 5 (IntKind.u64.wrap (e + 1))).L.w,
 memIs S.M 8 th 5 (IntKind.u64.wrap (e + 1)) = (mStore S 8 th 5 (IntKind.u64.wrap (e + 1))).L.i,
 false = (mStore S 8 th 5 (IntKind.u64.wrap (e + 1))).L.d,
 ∀ (k : List Int), memPut S.M 8 th 5 (IntKind.u64.wrap (e + 1)) k = (mStore S 8 th 5 (IntKind.u64.wrap (e + 1))).M k,
 (0 : Nat) = 0,
 (dPut (dOf n g) 8 th 5 (IntKind.u64.wrap (e + 1))).n = (rStore (mkR n g s2 L2) 8 th 5 (IntKind.u64.wrap (e + 1))).D.n,
 (none : Option Nat) = none,
 IntKind.i64.wrap (s2 + 1) = (rStore (mkR n g s2 L2) 8 th 5 (IntKind.u64.wrap (e + 1))).st,
 (2 : Int) = 2,
 (8 : Int) = 8,
 th = (rStore (mkR n g s2 L2) 8 th 5 (IntKind.u64.wrap (e + 1))).L.a,
 (5 : Int) = 5,
 dWord (dOf n g) 8 th 5 = (rStore (mkR n g s2 L2) 8 th 5 (IntKind.u64.wrap (e + 1))).L.w,
 dWord (dPut (dOf n g) 8 th 5 (IntKind.u64.wrap (e + 1))) 8 th 5 = (rStore (mkR n g s2 L2) 8 th 5 (IntKind.u64.wrap (e + 1))).L.i,
 false = (rStore (mkR n g s2 L2) 8 th 5 (IntKind.u64.wrap (e + 1))).L.d,
 false = false,
 (rStore (mkR n g s2 L2) 8 th 5 (IntKind.u64.wrap (e + 1))).D.n ≤ (dPut (dOf n g) 8 th 5 (IntKind.u64.wrap (e + 1))).n,
 wdF (rStore (mkR n g s2 L2) 8 th 5 (IntKind.u64.wrap (e + 1))).D.W = wdF (dPut (dOf n g) 8 th 5 (IntKind.u64.wrap (e + 1))).W ∧ plainSh wSh = true ∨ ∀ (i : Nat), i < (rStore (mkR n g s2 L2) 8 th 5 (IntKind.u64.wrap (e + 1))).D.n → rowOb wSh 0 (wdF (dPut (dOf n g) 8 th 5 (IntKind.u64.wrap (e + 1))).W i) (wdF (rStore (mkR n g s2 L2) 8 th 5 (IntKind.u64.wrap (e + 1))).D.W i),
 (IntKind.u64.wrap (e + 1) == IntKind.u64.wrap (e + 1)) = true,
 (0 : Int) ≤ (8 : Int),
 n ≤ l,
 n ≤ 100000,
 (0 : Int) ≤ (8 : Int)]) := by kernel_rfl
theorem err1_loc (th hi nw e : Int) (dn : Bool) (S : MS) (n l : Nat) (g : Nat → Nat → AV) (s2 : Int) (L2 : LS) : LocOk Try.prog 71 [.agg [.nilp, .nilp, .ptr 1 0 0, .nilp, .ptr 2 0 0], .agg [.ptr 3 0 0, .ptr 5 0 0]] (err1H th hi nw e dn S n l g s2 L2) (err1R th hi nw e dn S n l g s2 L2) := by
  refine loc_of_call EEr_ok (fun hp => ?_)
  have hl : n ≤ l := hp _ (List.mem_cons_self ..)
  have hm : n ≤ 100000 := hp _ (List.mem_cons_of_mem _ (List.mem_cons_self ..))
  have hb : Both S (mkR n g s2 L2) := hp _ (List.mem_cons_of_mem _ (List.mem_cons_of_mem _ (List.mem_cons_self ..)))
  have hu : ∀ k, 0 ≤ mget S.M k ∧ mget S.M k < 18446744073709551616 := hp _ (List.mem_cons_of_mem _ (List.mem_cons_of_mem _ (List.mem_cons_of_mem _ (List.mem_cons_self ..))))
  clear hp
  refine ⟨3000, _, _, _, err1_1 .., (ob_cons ?_ (ob_cons rfl (ob_cons rfl (ob_cons rfl (ob_cons rfl (ob_cons rfl (ob_cons rfl (ob_cons rfl (ob_cons rfl (ob_cons ?_ (ob_cons rfl (ob_cons rfl (ob_cons ?_ (ob_cons rfl (ob_cons ?_ (ob_cons ?_ (ob_cons ?_ (ob_cons ?_ (ob_cons rfl (ob_cons ?_ (ob_cons rfl (ob_cons ?_ (ob_cons rfl (ob_cons rfl (ob_cons ?_ (ob_cons rfl (ob_cons ?_ (ob_cons ?_ (ob_cons ?_ (ob_cons rfl (ob_cons ?_ (ob_cons ?_ (ob_cons ?_ (ob_cons (by decide) (ob_cons ?_ (ob_cons ?_ (ob_cons (by decide) ob_nil)))))))))))))))))))))))))))))))))))))⟩
  · (simp; done)
  · exact rfl
  · exact rfl
  · exact rfl
  · exact rfl
  · exact rfl
  · exact fun _ => rfl
  · exact rfl
  · exact rfl
  · exact rfl
  · exact rfl
  · exact rfl
  · exact rfl
  · exact Nat.le_refl _
  · exact .inr (fun i hi => row_wd rfl)
  · (simp; done)
  · assumption
  · assumption
end Go.Proofs.Ytephpkfajobhmaa
