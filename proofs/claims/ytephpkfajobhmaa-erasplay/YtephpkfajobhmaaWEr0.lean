/-
  ErasPlay: steps.
-/
import Derived.Test.YtephpkfajobhmaaWErBDef
set_option linter.unusedSimpArgs false
set_option linter.unusedVariables false
namespace Go.Proofs.Ytephpkfajobhmaa
open Go.Ev
theorem ere0_1 (th hi nw e : Int) (dn : Bool) (S : MS) (n l : Nat) (g : Nat → Nat → AV) (s2 : Int) (L2 : LS) : callB EEr 3000 71 [AV.agg [AV.ptr 1 0 0, AV.nilp, AV.nilp, AV.nilp, AV.ptr 2 0 0], AV.agg [AV.ptr 3 0 0, AV.ptr 5 0 0]] (ere0H th hi nw e dn S n l g s2 L2) (ere0R th hi nw e dn S n l g s2 L2) [(7, Src.nm 6)] [] =
 some ([(hi == hi) = true,
 th = th,
 hi = hi,
 th = th,
 hi = hi,
 dn = dn,
 e = e,
 S.st = S.st,
 S.L.c = S.L.c,
 S.L.k = S.L.k,
 S.L.a = S.L.a,
 S.L.f = S.L.f,
 S.L.w = S.L.w,
 S.L.i = S.L.i,
 S.L.d = S.L.d,
 ∀ (k : List Int), S.M k = S.M k,
 (0 : Nat) = 0,
 n = (mkR n g s2 L2).D.n,
 (none : Option Nat) = none,
 s2 = (mkR n g s2 L2).st,
 L2.c = (mkR n g s2 L2).L.c,
 L2.k = (mkR n g s2 L2).L.k,
 L2.a = (mkR n g s2 L2).L.a,
 L2.f = (mkR n g s2 L2).L.f,
 L2.w = (mkR n g s2 L2).L.w,
 L2.i = (mkR n g s2 L2).L.i,
 L2.d = (mkR n g s2 L2).L.d,
 false = false,
 (mkR n g s2 L2).D.n ≤ l,
 wdF (mkR n g s2 L2).D.W = g ∧ plainSh wSh = true ∨ ∀ (i : Nat), i < (mkR n g s2 L2).D.n → rowOb wSh 0 (g i) (wdF (mkR n g s2 L2).D.W i)]) := by kernel_rfl
theorem ere0_loc (th hi nw e : Int) (dn : Bool) (S : MS) (n l : Nat) (g : Nat → Nat → AV) (s2 : Int) (L2 : LS) : LocOk Try.prog 71 [.agg [.ptr 1 0 0, .nilp, .nilp, .nilp, .ptr 2 0 0], .agg [.ptr 3 0 0, .ptr 5 0 0]] (ere0H th hi nw e dn S n l g s2 L2) (ere0R th hi nw e dn S n l g s2 L2) := by
  refine loc_of_call EEr_ok (fun hp => ?_)
  have hl : n ≤ l := hp _ (List.mem_cons_self ..)
  have hm : n ≤ 100000 := hp _ (List.mem_cons_of_mem _ (List.mem_cons_self ..))
  have hb : Both S (mkR n g s2 L2) := hp _ (List.mem_cons_of_mem _ (List.mem_cons_of_mem _ (List.mem_cons_self ..)))
  have hu : ∀ k, 0 ≤ mget S.M k ∧ mget S.M k < 18446744073709551616 := hp _ (List.mem_cons_of_mem _ (List.mem_cons_of_mem _ (List.mem_cons_of_mem _ (List.mem_cons_self ..))))
  clear hp
  refine ⟨3000, _, _, _, ere0_1 .., (ob_cons ?_ (ob_cons rfl (ob_cons rfl (ob_cons rfl (ob_cons rfl (ob_cons rfl (ob_cons rfl (ob_cons rfl (ob_cons rfl (ob_cons rfl (ob_cons rfl (ob_cons rfl (ob_cons rfl (ob_cons rfl (ob_cons rfl (ob_cons (fun _ => rfl) (ob_cons rfl (ob_cons ?_ (ob_cons rfl (ob_cons ?_ (ob_cons ?_ (ob_cons ?_ (ob_cons ?_ (ob_cons ?_ (ob_cons ?_ (ob_cons ?_ (ob_cons ?_ (ob_cons rfl (ob_cons ?_ (ob_cons ?_ ob_nil))))))))))))))))))))))))))))))⟩
  · (simp; done)
  · exact rfl
  · exact rfl
  · exact rfl
  · exact rfl
  · exact rfl
  · exact rfl
  · exact rfl
  · exact rfl
  · exact rfl
  · assumption
  · exact .inr (fun i hi => row_wd rfl)
theorem ere3_1 (th hi nw e : Int) (dn : Bool) (S : MS) (n l : Nat) (g : Nat → Nat → AV) (s2 : Int) (L2 : LS) : callB EEr 3000 71 [AV.agg [AV.ptr 1 0 0, AV.nilp, AV.nilp, AV.nilp, AV.ptr 2 0 0], AV.agg [AV.ptr 3 0 0, AV.ptr 5 0 0]] (ere3H th hi nw e dn S n l g s2 L2) (ere3R th hi nw e dn S n l g s2 L2) [(7, Src.nm 6)] [] =
 some ([th = th,
 IntKind.u64.wrap (mget S.M (key 2 0 0) + 1) = IntKind.u64.wrap (mget S.M (key 2 0 0) + 1),
 th = th,
 dn = dn,
 dWord (dOf n g) 2 0 0 = mget S.M (key 2 0 0),
 IntKind.i64.wrap (S.st + 1) = (mLoad S 2 0 0).st,
 (1 : Int) = 1,
 (2 : Int) = 2,
 (0 : Int) = 0,
 (0 : Int) = 0,
 mget S.M (key 2 0 0) = (mLoad S 2 0 0).L.w,
 mget S.M (key 2 0 0) = (mLoad S 2 0 0).L.i,
 false = (mLoad S 2 0 0).L.d,
 ∀ (k : List Int), S.M k = (mLoad S 2 0 0).M k,
 (0 : Nat) = 0,
 n = (rLoad (mkR n g s2 L2) 2 0 0).D.n,
 (none : Option Nat) = none,
 IntKind.i64.wrap (s2 + 1) = (rLoad (mkR n g s2 L2) 2 0 0).st,
 (1 : Int) = 1,
 (2 : Int) = 2,
 (0 : Int) = 0,
 (0 : Int) = 0,
 dWord (dOf n g) 2 0 0 = (rLoad (mkR n g s2 L2) 2 0 0).L.w,
 dWord (dOf n g) 2 0 0 = (rLoad (mkR n g s2 L2) 2 0 0).L.i,
 false = (rLoad (mkR n g s2 L2) 2 0 0).L.d,
 false = false,
 (rLoad (mkR n g s2 L2) 2 0 0).D.n ≤ l,
 wdF (rLoad (mkR n g s2 L2) 2 0 0).D.W = g ∧ plainSh wSh = true ∨ ∀ (i : Nat), i < (rLoad (mkR n g s2 L2) 2 0 0).D.n → rowOb wSh 0 (g i) (wdF (rLoad (mkR n g s2 L2) 2 0 0).D.W i),
 n ≤ l,
 n ≤ 1000000]) := by kernel_rfl
theorem ere3_loc (th hi nw e : Int) (dn : Bool) (S : MS) (n l : Nat) (g : Nat → Nat → AV) (s2 : Int) (L2 : LS) : LocOk Try.prog 71 [.agg [.ptr 1 0 0, .nilp, .nilp, .nilp, .ptr 2 0 0], .agg [.ptr 3 0 0, .ptr 5 0 0]] (ere3H th hi nw e dn S n l g s2 L2) (ere3R th hi nw e dn S n l g s2 L2) := by
  refine loc_of_call EEr_ok (fun hp => ?_)
  have hl : n ≤ l := hp _ (List.mem_cons_self ..)
  have hm : n ≤ 100000 := hp _ (List.mem_cons_of_mem _ (List.mem_cons_self ..))
  have hb : Both S (mkR n g s2 L2) := hp _ (List.mem_cons_of_mem _ (List.mem_cons_of_mem _ (List.mem_cons_self ..)))
  have hu : ∀ k, 0 ≤ mget S.M k ∧ mget S.M k < 18446744073709551616 := hp _ (List.mem_cons_of_mem _ (List.mem_cons_of_mem _ (List.mem_cons_of_mem _ (List.mem_cons_self ..))))
  clear hp
  refine ⟨3000, _, _, _, ere3_1 .., (ob_cons rfl (ob_cons rfl (ob_cons rfl (ob_cons rfl (ob_cons ?_ (ob_cons ?_ (ob_cons rfl (ob_cons rfl (ob_cons rfl (ob_cons rfl (ob_cons ?_ (ob_cons ?_ (ob_cons ?_ (ob_cons ?_ (ob_cons rfl (ob_cons ?_ (ob_cons rfl (ob_cons ?_ (ob_cons rfl (ob_cons rfl (ob_cons rfl (ob_cons rfl (ob_cons ?_ (ob_cons ?_ (ob_cons ?_ (ob_cons rfl (ob_cons ?_ (ob_cons ?_ (ob_cons ?_ (ob_cons ?_ ob_nil))))))))))))))))))))))))))))))⟩
  · exact (hb.agr _ _ _).symm
  · exact rfl
  · exact rfl
  · exact rfl
  · exact rfl
  · exact fun _ => rfl
  · exact rfl
  · exact rfl
  · exact rfl
  · exact rfl
  · exact rfl
  · assumption
  · exact .inr (fun i hi => row_wd rfl)
  · assumption
  · omega
theorem ere2_1 (th hi nw e : Int) (dn : Bool) (S : MS) (n l : Nat) (g : Nat → Nat → AV) (s2 : Int) (L2 : LS) : callB EEr 3000 71 [AV.agg [AV.ptr 1 0 0, AV.nilp, AV.nilp, AV.nilp, AV.ptr 2 0 0], AV.agg [AV.ptr 3 0 0, AV.ptr 5 0 0]] (ere2H th hi nw e dn S n l g s2 L2) (ere2R th hi nw e dn S n l g s2 L2) [(7, Src.nm 1432108390954562068130770492362074629094780895143840845398939973542058535927045117761430665392583068753512924305807531066532549738824859460831230820357)] [] =
 some ([th = th,
 IntKind.u64.wrap (e + 1) = IntKind.u64.wrap (e + 1),
 th = th,
 dn = dn,
 e = e,
 IntKind.i64.wrap (S.st + 1) = (mStore S 8 th 4 (IntKind.u64.wrap (e + 1))).st,
 (2 : Int) = 2,
 (8 : Int) = 8,
 th = (mStore S 8 th 4 (IntKind.u64.wrap (e + 1))).L.a,
 (4 : Int) = 4,
 mget S.M (key 8 th 4) = (mStore S 8 th 4 (IntKind.u64.wrap (e + 1))).L.w,
 memIs S.M 8 th 4 (IntKind.u64.wrap (e + 1)) = (mStore S 8 th 4 (IntKind.u64.wrap (e + 1))).L.i,
 false = (mStore S 8 th 4 (IntKind.u64.wrap (e + 1))).L.d,
 ∀ (k : List Int), memPut S.M 8 th 4 (IntKind.u64.wrap (e + 1)) k = (mStore S 8 th 4 (IntKind.u64.wrap (e + 1))).M k,
 (0 : Nat) = 0,
 (dPut (dOf n g) 8 th 4 (IntKind.u64.wrap (e + 1))).n = (rStore (mkR n g s2 L2) 8 th 4 (IntKind.u64.wrap (e + 1))).D.n,
 (none : Option Nat) = none,
 IntKind.i64.wrap (s2 + 1) = (rStore (mkR n g s2 L2) 8 th 4 (IntKind.u64.wrap (e + 1))).st,
 (2 : Int) = 2,
 (8 : Int) = 8,
 th = (rStore (mkR n g s2 L2) 8 th 4 (IntKind.u64.wrap (e + 1))).L.a,
 (4 : Int) = 4,
 dWord (dOf n g) 8 th 4 = (rStore (mkR n g s2 L2) 8 th 4 (IntKind.u64.wrap (e + 1))).L.w,
 dWord (dPut (dOf n g) 8 th 4 (IntKind.u64.wrap (e + 1))) 8 th 4 = (rStore (mkR n g s2 L2) 8 th 4 (IntKind.u64.wrap (e + 1))).L.i,
 false = (rStore (mkR n g s2 L2) 8 th 4 (IntKind.u64.wrap (e + 1))).L.d,
 false = false,
 (rStore (mkR n g s2 L2) 8 th 4 (IntKind.u64.wrap (e + 1))).D.n ≤ (dPut (dOf n g) 8 th 4 (IntKind.u64.wrap (e + 1))).n,
 wdF (rStore (mkR n g s2 L2) 8 th 4 (IntKind.u64.wrap (e + 1))).D.W = wdF (dPut (dOf n g) 8 th 4 (IntKind.u64.wrap (e + 1))).W ∧ plainSh wSh = true ∨ ∀ (i : Nat), i < (rStore (mkR n g s2 L2) 8 th 4 (IntKind.u64.wrap (e + 1))).D.n → rowOb wSh 0 (wdF (dPut (dOf n g) 8 th 4 (IntKind.u64.wrap (e + 1))).W i) (wdF (rStore (mkR n g s2 L2) 8 th 4 (IntKind.u64.wrap (e + 1))).D.W i),
 (0 : Int) ≤ (8 : Int),
 n ≤ l,
 n ≤ 100000,
 (0 : Int) ≤ (8 : Int)]) := by kernel_rfl
theorem ere2_loc (th hi nw e : Int) (dn : Bool) (S : MS) (n l : Nat) (g : Nat → Nat → AV) (s2 : Int) (L2 : LS) : LocOk Try.prog 71 [.agg [.ptr 1 0 0, .nilp, .nilp, .nilp, .ptr 2 0 0], .agg [.ptr 3 0 0, .ptr 5 0 0]] (ere2H th hi nw e dn S n l g s2 L2) (ere2R th hi nw e dn S n l g s2 L2) := by
  refine loc_of_call EEr_ok (fun hp => ?_)
  have hl : n ≤ l := hp _ (List.mem_cons_self ..)
  have hm : n ≤ 100000 := hp _ (List.mem_cons_of_mem _ (List.mem_cons_self ..))
  have hb : Both S (mkR n g s2 L2) := hp _ (List.mem_cons_of_mem _ (List.mem_cons_of_mem _ (List.mem_cons_self ..)))
  have hu : ∀ k, 0 ≤ mget S.M k ∧ mget S.M k < 18446744073709551616 := hp _ (List.mem_cons_of_mem _ (List.mem_cons_of_mem _ (List.mem_cons_of_mem _ (List.mem_cons_self ..))))
  clear hp
  refine ⟨3000, _, _, _, ere2_1 .., (ob_cons rfl (ob_cons rfl (ob_cons rfl (ob_cons rfl (ob_cons rfl (ob_cons ?_ (ob_cons rfl (ob_cons rfl (ob_cons ?_ (ob_cons rfl (ob_cons ?_ (ob_cons ?_ (ob_cons ?_ (ob_cons ?_ (ob_cons rfl (ob_cons ?_ (ob_cons rfl (ob_cons ?_ (ob_cons rfl (ob_cons rfl (ob_cons ?_ (ob_cons rfl (ob_cons ?_ (ob_cons ?_ (ob_cons ?_ (ob_cons rfl (ob_cons ?_ (ob_cons ?_ (ob_cons (by decide) (ob_cons ?_ (ob_cons ?_ (ob_cons (by decide) ob_nil))))))))))))))))))))))))))))))))⟩
  · exact rfl
  · exact rfl
  · exact rfl
  · exact rfl
  · exact rfl
  · exact fun _ => rfl
  · exact rfl
  · exact rfl
  · exact rfl
  · exact rfl
  · exact rfl
  · exact rfl
  · exact Nat.le_refl _
  · exact .inr (fun i hi => row_wd rfl)
  · assumption
  · assumption
theorem ere1_1 (th hi nw e : Int) (dn : Bool) (S : MS) (n l : Nat) (g : Nat → Nat → AV) (s2 : Int) (L2 : LS) : callB EEr 3000 71 [AV.agg [AV.ptr 1 0 0, AV.nilp, AV.nilp, AV.nilp, AV.ptr 2 0 0], AV.agg [AV.ptr 3 0 0, AV.ptr 5 0 0]] (ere1H th hi nw e dn S n l g s2 L2) (ere1R th hi nw e dn S n l g s2 L2) [(7, Src.nm 1432108390954562068130770492362074629094780895143840845398939973542058535927045117761430665392583068753512924305807531066532549738824859460831230820357)] [] =
 some ([(IntKind.u64.wrap (e + 1) == IntKind.u64.wrap (e + 1)) = true,
 th = th,
 IntKind.u64.wrap (e + 1) = IntKind.u64.wrap (e + 1),
 th = th,
 IntKind.u64.wrap (e + 1) = IntKind.u64.wrap (e + 1),
 dn = dn,
 e = e,
 IntKind.i64.wrap (S.st + 1) = (mStore S 8 th 5 (IntKind.u64.wrap (e + 1))).st,
 (2 : Int) = 2,
 (8 : Int) = 8,
 th = (mStore S 8 th 5 (IntKind.u64.wrap (e + 1))).L.a,
 (5 : Int) = 5,
 mget S.M (key 8 th 5) = (mStore S 8 th 5 (IntKind.u64.wrap (e + 1))).L.w,
 memIs S.M 8 th 5 (IntKind.u64.wrap (e + 1)) = (mStore S 8 th 5 (IntKind.u64.wrap (e + 1))).L.i,
 false = (mStore S 8 th 5 (IntKind.u64.wrap (e + 1))).L.d,
 ∀ (k : List Int), memPut S.M 8 th 5 (IntKind.u64.wrap (e + 1)) k = (mStore S 8 th 5 (IntKind.u64.wrap (e + 1))).M k,
 (0 : Nat) = 0,
 (dPut (dOf n g) 8 th 5 (IntKind.u64.wrap (e + 1))).n = (rStore (mkR n g s2 L2) 8 th 5 (IntKind.u64.wrap (e + 1))).D.n,
 (none : Option Nat) = none,
 IntKind.i64.wrap (s2 + 1) = (rStore (mkR n g s2 L2) 8 th 5 (IntKind.u64.wrap (e + 1))).st,
 (2 : Int) = 2,
 (8 : Int) = 8,
 th = (rStore (mkR n g s2 L2) 8 th 5 (IntKind.u64.wrap (e + 1))).L.a,
 (5 : Int) = 5,
 dWord (dOf n g) 8 th 5 = (rStore (mkR n g s2 L2) 8 th 5 (IntKind.u64.wrap (e + 1))).L.w,
 dWord (dPut (dOf n g) 8 th 5 (IntKind.u64.wrap (e + 1))) 8 th 5 = (rStore (mkR n g s2 L2) 8 th 5 (IntKind.u64.wrap (e + 1))).L.i,
 false = (rStore (mkR n g s2 L2) 8 th 5 (IntKind.u64.wrap (e + 1))).L.d,
 false = false,
 (rStore (mkR n g s2 L2) 8 th 5 (IntKind.u64.wrap (e + 1))).D.n ≤ (dPut (dOf n g) 8 th 5 (IntKind.u64.wrap (e + 1))).n,
 wdF (rStore (mkR n g s2 L2) 8 th 5 (IntKind.u64.wrap (e + 1))).D.W = wdF (dPut (dOf n g) 8 th 5 (IntKind.u64.wrap (e + 1))).W ∧ plainSh wSh = true ∨ ∀ (i : Nat), i < (rStore (mkR n g s2 L2) 8 th 5 (IntKind.u64.wrap (e + 1))).D.n → rowOb wSh 0 (wdF (dPut (dOf n g) 8 th 5 (IntKind.u64.wrap (e + 1))).W i) (wdF (rStore (mkR n g s2 L2) 8 th 5 (IntKind.u64.wrap (e + 1))).D.W i),
 (0 : Int) ≤ (8 : Int),
 n ≤ l,
 n ≤ 100000,
 (0 : Int) ≤ (8 : Int)]) := by kernel_rfl
theorem ere1_loc (th hi nw e : Int) (dn : Bool) (S : MS) (n l : Nat) (g : Nat → Nat → AV) (s2 : Int) (L2 : LS) : LocOk Try.prog 71 [.agg [.ptr 1 0 0, .nilp, .nilp, .nilp, .ptr 2 0 0], .agg [.ptr 3 0 0, .ptr 5 0 0]] (ere1H th hi nw e dn S n l g s2 L2) (ere1R th hi nw e dn S n l g s2 L2) := by
  refine loc_of_call EEr_ok (fun hp => ?_)
  have hl : n ≤ l := hp _ (List.mem_cons_self ..)
  have hm : n ≤ 100000 := hp _ (List.mem_cons_of_mem _ (List.mem_cons_self ..))
  have hb : Both S (mkR n g s2 L2) := hp _ (List.mem_cons_of_mem _ (List.mem_cons_of_mem _ (List.mem_cons_self ..)))
  have hu : ∀ k, 0 ≤ mget S.M k ∧ mget S.M k < 18446744073709551616 := hp _ (List.mem_cons_of_mem _ (List.mem_cons_of_mem _ (List.mem_cons_of_mem _ (List.mem_cons_self ..))))
  clear hp
  refine ⟨3000, _, _, _, ere1_1 .., (ob_cons ?_ (ob_cons rfl (ob_cons rfl (ob_cons rfl (ob_cons rfl (ob_cons rfl (ob_cons rfl (ob_cons ?_ (ob_cons rfl (ob_cons rfl (ob_cons ?_ (ob_cons rfl (ob_cons ?_ (ob_cons ?_ (ob_cons ?_ (ob_cons ?_ (ob_cons rfl (ob_cons ?_ (ob_cons rfl (ob_cons ?_ (ob_cons rfl (ob_cons rfl (ob_cons ?_ (ob_cons rfl (ob_cons ?_ (ob_cons ?_ (ob_cons ?_ (ob_cons rfl (ob_cons ?_ (ob_cons ?_ (ob_cons (by decide) (ob_cons ?_ (ob_cons ?_ (ob_cons (by decide) ob_nil))))))))))))))))))))))))))))))))))⟩
  · (simp; done)
  · exact rfl
  · exact rfl
  · exact rfl
  · exact rfl
  · exact rfl
  · exact fun _ => rfl
  · exact rfl
  · exact rfl
  · exact rfl
  · exact rfl
  · exact rfl
  · exact rfl
  · exact Nat.le_refl _
  · exact .inr (fun i hi => row_wd rfl)
  · assumption
  · assumption
end Go.Proofs.Ytephpkfajobhmaa
