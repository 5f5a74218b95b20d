/-
  EpochsPlay: steps.
-/
import Derived.Test.YtephpkfajobhmaaWEp0Def
set_option linter.unusedSimpArgs false
set_option linter.unusedVariables false
namespace Go.Proofs.Ytephpkfajobhmaa
open Go.Ev
theorem epe0_1 (e th t2 b : Int) (mv : Bool) (S : MS) (n l : Nat) (g : Nat → Nat → AV) (s2 : Int) (L2 : LS) : callB EEp 3000 65 [AV.agg [AV.ptr 1 0 0, AV.nilp, AV.nilp, AV.ptr 2 0 0], AV.agg [AV.ptr 3 0 0, AV.ptr 5 0 0]] (epe0H e th t2 b mv S n l g s2 L2) (epe0R e th t2 b mv S n l g s2 L2) [(7, Src.nm 6)] [] =
 some ([e = e,
 th = th,
 t2 = t2,
 mv = mv,
 e = e,
 b = b,
 S.st = S.st,
 S.L.c = S.L.c,
 S.L.k = S.L.k,
 S.L.a = S.L.a,
 S.L.f = S.L.f,
 S.L.w = S.L.w,
 S.L.i = S.L.i,
 S.L.d = S.L.d,
 ∀ (k : List Int), S.M k = S.M k,
 (0 : Nat) = 0,
 n = (mkR n g s2 L2).D.n,
 (none : Option Nat) = none,
 s2 = (mkR n g s2 L2).st,
 L2.c = (mkR n g s2 L2).L.c,
 L2.k = (mkR n g s2 L2).L.k,
 L2.a = (mkR n g s2 L2).L.a,
 L2.f = (mkR n g s2 L2).L.f,
 L2.w = (mkR n g s2 L2).L.w,
 L2.i = (mkR n g s2 L2).L.i,
 L2.d = (mkR n g s2 L2).L.d,
 false = false,
 (mkR n g s2 L2).D.n ≤ l,
 wdF (mkR n g s2 L2).D.W = g ∧ plainSh wSh = true ∨ ∀ (i : Nat), i < (mkR n g s2 L2).D.n → rowOb wSh 0 (g i) (wdF (mkR n g s2 L2).D.W i)]) := by kernel_rfl
theorem epe0_loc (e th t2 b : Int) (mv : Bool) (S : MS) (n l : Nat) (g : Nat → Nat → AV) (s2 : Int) (L2 : LS) : LocOk Try.prog 65 [.agg [.ptr 1 0 0, .nilp, .nilp, .ptr 2 0 0], .agg [.ptr 3 0 0, .ptr 5 0 0]] (epe0H e th t2 b mv S n l g s2 L2) (epe0R e th t2 b mv S n l g s2 L2) := by
  refine loc_of_call EEp_ok (fun hp => ?_)
  have hl : n ≤ l := hp _ (List.mem_cons_self ..)
  have hm : n ≤ 100000 := hp _ (List.mem_cons_of_mem _ (List.mem_cons_self ..))
  have hb : Both S (mkR n g s2 L2) := hp _ (List.mem_cons_of_mem _ (List.mem_cons_of_mem _ (List.mem_cons_self ..)))
  have hu : ∀ k, 0 ≤ mget S.M k ∧ mget S.M k < 18446744073709551616 := hp _ (List.mem_cons_of_mem _ (List.mem_cons_of_mem _ (List.mem_cons_of_mem _ (List.mem_cons_self ..))))
  clear hp
  refine ⟨3000, _, _, _, epe0_1 .., (ob_cons rfl (ob_cons rfl (ob_cons rfl (ob_cons rfl (ob_cons rfl (ob_cons rfl (ob_cons rfl (ob_cons rfl (ob_cons rfl (ob_cons rfl (ob_cons rfl (ob_cons rfl (ob_cons rfl (ob_cons rfl (ob_cons (fun _ => rfl) (ob_cons rfl (ob_cons ?_ (ob_cons rfl (ob_cons ?_ (ob_cons ?_ (ob_cons ?_ (ob_cons ?_ (ob_cons ?_ (ob_cons ?_ (ob_cons ?_ (ob_cons ?_ (ob_cons rfl (ob_cons ?_ (ob_cons ?_ ob_nil)))))))))))))))))))))))))))))⟩
  · exact rfl
  · exact rfl
  · exact rfl
  · exact rfl
  · exact rfl
  · exact rfl
  · exact rfl
  · exact rfl
  · exact rfl
  · exact hl
  · exact .inr (fun i hi => row_wd rfl)
theorem epe1_1 (e th t2 b : Int) (mv : Bool) (S : MS) (n l : Nat) (g : Nat → Nat → AV) (s2 : Int) (L2 : LS) : callB EEp 3000 65 [AV.agg [AV.ptr 1 0 0, AV.nilp, AV.nilp, AV.ptr 2 0 0], AV.agg [AV.ptr 3 0 0, AV.ptr 5 0 0]] (epe1H e th t2 b mv S n l g s2 L2) (epe1R e th t2 b mv S n l g s2 L2) [(7, Src.nm 6)] [] =
 some ([mget S.M (key 1 0 0) = mget S.M (key 1 0 0),
 th = th,
 th = th,
 mv = mv,
 dWord (dOf n g) 1 0 0 = mget S.M (key 1 0 0),
 b = b,
 IntKind.i64.wrap (S.st + 1) = (mLoad S 1 0 0).st,
 (1 : Int) = 1,
 (1 : Int) = 1,
 (0 : Int) = 0,
 (0 : Int) = 0,
 mget S.M (key 1 0 0) = (mLoad S 1 0 0).L.w,
 mget S.M (key 1 0 0) = (mLoad S 1 0 0).L.i,
 false = (mLoad S 1 0 0).L.d,
 ∀ (k : List Int), S.M k = (mLoad S 1 0 0).M k,
 (0 : Nat) = 0,
 n = (rLoad (mkR n g s2 L2) 1 0 0).D.n,
 (none : Option Nat) = none,
 IntKind.i64.wrap (s2 + 1) = (rLoad (mkR n g s2 L2) 1 0 0).st,
 (1 : Int) = 1,
 (1 : Int) = 1,
 (0 : Int) = 0,
 (0 : Int) = 0,
 dWord (dOf n g) 1 0 0 = (rLoad (mkR n g s2 L2) 1 0 0).L.w,
 dWord (dOf n g) 1 0 0 = (rLoad (mkR n g s2 L2) 1 0 0).L.i,
 false = (rLoad (mkR n g s2 L2) 1 0 0).L.d,
 false = false,
 (rLoad (mkR n g s2 L2) 1 0 0).D.n ≤ l,
 wdF (rLoad (mkR n g s2 L2) 1 0 0).D.W = g ∧ plainSh wSh = true ∨ ∀ (i : Nat), i < (rLoad (mkR n g s2 L2) 1 0 0).D.n → rowOb wSh 0 (g i) (wdF (rLoad (mkR n g s2 L2) 1 0 0).D.W i),
 n ≤ l,
 n ≤ 1000000]) := by kernel_rfl
theorem epe1_loc (e th t2 b : Int) (mv : Bool) (S : MS) (n l : Nat) (g : Nat → Nat → AV) (s2 : Int) (L2 : LS) : LocOk Try.prog 65 [.agg [.ptr 1 0 0, .nilp, .nilp, .ptr 2 0 0], .agg [.ptr 3 0 0, .ptr 5 0 0]] (epe1H e th t2 b mv S n l g s2 L2) (epe1R e th t2 b mv S n l g s2 L2) := by
  refine loc_of_call EEp_ok (fun hp => ?_)
  have hl : n ≤ l := hp _ (List.mem_cons_self ..)
  have hm : n ≤ 100000 := hp _ (List.mem_cons_of_mem _ (List.mem_cons_self ..))
  have hb : Both S (mkR n g s2 L2) := hp _ (List.mem_cons_of_mem _ (List.mem_cons_of_mem _ (List.mem_cons_self ..)))
  have hu : ∀ k, 0 ≤ mget S.M k ∧ mget S.M k < 18446744073709551616 := hp _ (List.mem_cons_of_mem _ (List.mem_cons_of_mem _ (List.mem_cons_of_mem _ (List.mem_cons_self ..))))
  clear hp
  refine ⟨3000, _, _, _, epe1_1 .., (ob_cons rfl (ob_cons rfl (ob_cons rfl (ob_cons rfl (ob_cons ?_ (ob_cons rfl (ob_cons ?_ (ob_cons rfl (ob_cons rfl (ob_cons rfl (ob_cons rfl (ob_cons ?_ (ob_cons ?_ (ob_cons ?_ (ob_cons ?_ (ob_cons rfl (ob_cons ?_ (ob_cons rfl (ob_cons ?_ (ob_cons rfl (ob_cons rfl (ob_cons rfl (ob_cons rfl (ob_cons ?_ (ob_cons ?_ (ob_cons ?_ (ob_cons rfl (ob_cons ?_ (ob_cons ?_ (ob_cons ?_ (ob_cons ?_ ob_nil)))))))))))))))))))))))))))))))⟩
  · exact (hb.agr _ _ _).symm
  · exact rfl
  · exact rfl
  · exact rfl
  · exact rfl
  · exact fun _ => rfl
  · exact rfl
  · exact rfl
  · exact rfl
  · exact rfl
  · exact rfl
  · exact hl
  · exact .inr (fun i hi => row_wd rfl)
  · exact hl
  · omega
theorem epe4_1 (e th t2 b : Int) (mv : Bool) (S : MS) (n l : Nat) (g : Nat → Nat → AV) (s2 : Int) (L2 : LS) : callB EEp 3000 65 [AV.agg [AV.ptr 1 0 0, AV.nilp, AV.nilp, AV.ptr 2 0 0], AV.agg [AV.ptr 3 0 0, AV.ptr 5 0 0]] (epe4H e th t2 b mv S n l g s2 L2) (epe4R e th t2 b mv S n l g s2 L2) [(7, Src.nm 1636695303948070935006594848413799576108321023021532394741645684048066898202337277441635046162952078575443342063780035504608628272942696526664263794691)] [] =
 some ([e = e,
 th = th,
 th = th,
 mv = mv,
 e = e,
 b = b,
 IntKind.i64.wrap (S.st + 1) = (mStore S 8 th 3 (inE e)).st,
 (2 : Int) = 2,
 (8 : Int) = 8,
 th = (mStore S 8 th 3 (inE e)).L.a,
 (3 : Int) = 3,
 mget S.M (key 8 th 3) = (mStore S 8 th 3 (inE e)).L.w,
 memIs S.M 8 th 3 (IntKind.u64.wrap ↑(BitVec.ofInt 64 (IntKind.u64.wrap (e * 2)) ||| BitVec.ofInt 64 1).toNat) = (mStore S 8 th 3 (inE e)).L.i,
 false = (mStore S 8 th 3 (inE e)).L.d,
 ∀ (k : List Int), memPut S.M 8 th 3 (IntKind.u64.wrap ↑(BitVec.ofInt 64 (IntKind.u64.wrap (e * 2)) ||| BitVec.ofInt 64 1).toNat) k = (mStore S 8 th 3 (inE e)).M k,
 (0 : Nat) = 0,
 (dPut (dOf n g) 8 th 3 (IntKind.u64.wrap (IntKind.u64.wrap (2 * e) + 1))).n = (rStore (mkR n g s2 L2) 8 th 3 (inE e)).D.n,
 (none : Option Nat) = none,
 IntKind.i64.wrap (s2 + 1) = (rStore (mkR n g s2 L2) 8 th 3 (inE e)).st,
 (2 : Int) = 2,
 (8 : Int) = 8,
 th = (rStore (mkR n g s2 L2) 8 th 3 (inE e)).L.a,
 (3 : Int) = 3,
 dWord (dOf n g) 8 th 3 = (rStore (mkR n g s2 L2) 8 th 3 (inE e)).L.w,
 dWord (dPut (dOf n g) 8 th 3 (IntKind.u64.wrap (IntKind.u64.wrap (2 * e) + 1))) 8 th 3 = (rStore (mkR n g s2 L2) 8 th 3 (inE e)).L.i,
 false = (rStore (mkR n g s2 L2) 8 th 3 (inE e)).L.d,
 false = false,
 (rStore (mkR n g s2 L2) 8 th 3 (inE e)).D.n ≤ (dPut (dOf n g) 8 th 3 (IntKind.u64.wrap (IntKind.u64.wrap (2 * e) + 1))).n,
 wdF (rStore (mkR n g s2 L2) 8 th 3 (inE e)).D.W = wdF (dPut (dOf n g) 8 th 3 (IntKind.u64.wrap (IntKind.u64.wrap (2 * e) + 1))).W ∧ plainSh wSh = true ∨ ∀ (i : Nat), i < (rStore (mkR n g s2 L2) 8 th 3 (inE e)).D.n → rowOb wSh 0 (wdF (dPut (dOf n g) 8 th 3 (IntKind.u64.wrap (IntKind.u64.wrap (2 * e) + 1))).W i) (wdF (rStore (mkR n g s2 L2) 8 th 3 (inE e)).D.W i),
 (0 : Int) ≤ (8 : Int),
 n ≤ l,
 n ≤ 100000,
 (0 : Int) ≤ (8 : Int)]) := by kernel_rfl
theorem epe4_loc (e th t2 b : Int) (mv : Bool) (S : MS) (n l : Nat) (g : Nat → Nat → AV) (s2 : Int) (L2 : LS) : LocOk Try.prog 65 [.agg [.ptr 1 0 0, .nilp, .nilp, .ptr 2 0 0], .agg [.ptr 3 0 0, .ptr 5 0 0]] (epe4H e th t2 b mv S n l g s2 L2) (epe4R e th t2 b mv S n l g s2 L2) := by
  refine loc_of_call EEp_ok (fun hp => ?_)
  have hl : n ≤ l := hp _ (List.mem_cons_self ..)
  have hm : n ≤ 100000 := hp _ (List.mem_cons_of_mem _ (List.mem_cons_self ..))
  have hb : Both S (mkR n g s2 L2) := hp _ (List.mem_cons_of_mem _ (List.mem_cons_of_mem _ (List.mem_cons_self ..)))
  have hu : ∀ k, 0 ≤ mget S.M k ∧ mget S.M k < 18446744073709551616 := hp _ (List.mem_cons_of_mem _ (List.mem_cons_of_mem _ (List.mem_cons_of_mem _ (List.mem_cons_self ..))))
  have he : 0 ≤ e ∧ e < 18446744073709551616 := hp _ (List.mem_cons_of_mem _ (List.mem_cons_of_mem _ (List.mem_cons_of_mem _ (List.mem_cons_of_mem _ (List.mem_cons_self ..)))))
  clear hp
  refine ⟨3000, _, _, _, epe4_1 .., (ob_cons rfl (ob_cons rfl (ob_cons rfl (ob_cons rfl (ob_cons rfl (ob_cons rfl (ob_cons ?_ (ob_cons rfl (ob_cons rfl (ob_cons ?_ (ob_cons rfl (ob_cons ?_ (ob_cons ?_ (ob_cons ?_ (ob_cons ?_ (ob_cons rfl (ob_cons ?_ (ob_cons rfl (ob_cons ?_ (ob_cons rfl (ob_cons rfl (ob_cons ?_ (ob_cons rfl (ob_cons ?_ (ob_cons ?_ (ob_cons ?_ (ob_cons rfl (ob_cons ?_ (ob_cons ?_ (ob_cons (by decide) (ob_cons ?_ (ob_cons ?_ (ob_cons (by decide) ob_nil)))))))))))))))))))))))))))))))))⟩
  · exact rfl
  · exact rfl
  · exact rfl
  · (rw [in_raw he.1 he.2]; rfl)
  · exact rfl
  · (intro _; rw [in_raw he.1 he.2]; rfl)
  · exact rfl
  · exact rfl
  · exact rfl
  · exact rfl
  · exact rfl
  · exact rfl
  · exact Nat.le_refl _
  · exact .inr (fun i hi => row_wd rfl)
  · exact hl
  · omega
theorem epx0_1 (e th t2 b : Int) (mv : Bool) (S : MS) (n l : Nat) (g : Nat → Nat → AV) (s2 : Int) (L2 : LS) : callB EEp 3000 65 [AV.agg [AV.nilp, AV.ptr 1 0 0, AV.nilp, AV.ptr 2 0 0], AV.agg [AV.ptr 3 0 0, AV.ptr 5 0 0]] (epx0H e th t2 b mv S n l g s2 L2) (epx0R e th t2 b mv S n l g s2 L2) [(7, Src.nm 6)] [] =
 some ([e = e,
 th = th,
 t2 = t2,
 mv = mv,
 e = e,
 b = b,
 S.st = S.st,
 S.L.c = S.L.c,
 S.L.k = S.L.k,
 S.L.a = S.L.a,
 S.L.f = S.L.f,
 S.L.w = S.L.w,
 S.L.i = S.L.i,
 S.L.d = S.L.d,
 ∀ (k : List Int), S.M k = S.M k,
 (0 : Nat) = 0,
 n = (mkR n g s2 L2).D.n,
 (none : Option Nat) = none,
 s2 = (mkR n g s2 L2).st,
 L2.c = (mkR n g s2 L2).L.c,
 L2.k = (mkR n g s2 L2).L.k,
 L2.a = (mkR n g s2 L2).L.a,
 L2.f = (mkR n g s2 L2).L.f,
 L2.w = (mkR n g s2 L2).L.w,
 L2.i = (mkR n g s2 L2).L.i,
 L2.d = (mkR n g s2 L2).L.d,
 false = false,
 (mkR n g s2 L2).D.n ≤ l,
 wdF (mkR n g s2 L2).D.W = g ∧ plainSh wSh = true ∨ ∀ (i : Nat), i < (mkR n g s2 L2).D.n → rowOb wSh 0 (g i) (wdF (mkR n g s2 L2).D.W i)]) := by kernel_rfl
theorem epx0_loc (e th t2 b : Int) (mv : Bool) (S : MS) (n l : Nat) (g : Nat → Nat → AV) (s2 : Int) (L2 : LS) : LocOk Try.prog 65 [.agg [.nilp, .ptr 1 0 0, .nilp, .ptr 2 0 0], .agg [.ptr 3 0 0, .ptr 5 0 0]] (epx0H e th t2 b mv S n l g s2 L2) (epx0R e th t2 b mv S n l g s2 L2) := by
  refine loc_of_call EEp_ok (fun hp => ?_)
  have hl : n ≤ l := hp _ (List.mem_cons_self ..)
  have hm : n ≤ 100000 := hp _ (List.mem_cons_of_mem _ (List.mem_cons_self ..))
  have hb : Both S (mkR n g s2 L2) := hp _ (List.mem_cons_of_mem _ (List.mem_cons_of_mem _ (List.mem_cons_self ..)))
  have hu : ∀ k, 0 ≤ mget S.M k ∧ mget S.M k < 18446744073709551616 := hp _ (List.mem_cons_of_mem _ (List.mem_cons_of_mem _ (List.mem_cons_of_mem _ (List.mem_cons_self ..))))
  clear hp
  refine ⟨3000, _, _, _, epx0_1 .., (ob_cons rfl (ob_cons rfl (ob_cons rfl (ob_cons rfl (ob_cons rfl (ob_cons rfl (ob_cons rfl (ob_cons rfl (ob_cons rfl (ob_cons rfl (ob_cons rfl (ob_cons rfl (ob_cons rfl (ob_cons rfl (ob_cons (fun _ => rfl) (ob_cons rfl (ob_cons ?_ (ob_cons rfl (ob_cons ?_ (ob_cons ?_ (ob_cons ?_ (ob_cons ?_ (ob_cons ?_ (ob_cons ?_ (ob_cons ?_ (ob_cons ?_ (ob_cons rfl (ob_cons ?_ (ob_cons ?_ ob_nil)))))))))))))))))))))))))))))⟩
  · exact rfl
  · exact rfl
  · exact rfl
  · exact rfl
  · exact rfl
  · exact rfl
  · exact rfl
  · exact rfl
  · exact rfl
  · exact hl
  · exact .inr (fun i hi => row_wd rfl)
theorem epx1_1 (e th t2 b : Int) (mv : Bool) (S : MS) (n l : Nat) (g : Nat → Nat → AV) (s2 : Int) (L2 : LS) : callB EEp 3000 65 [AV.agg [AV.nilp, AV.ptr 1 0 0, AV.nilp, AV.ptr 2 0 0], AV.agg [AV.ptr 3 0 0, AV.ptr 5 0 0]] (epx1H e th t2 b mv S n l g s2 L2) (epx1R e th t2 b mv S n l g s2 L2) [(7, Src.nm 11)] [] =
 some ([e = e,
 th = th,
 th = th,
 mv = mv,
 e = e,
 b = b,
 IntKind.i64.wrap (S.st + 1) = (mStore S 8 th 3 0).st,
 (2 : Int) = 2,
 (8 : Int) = 8,
 th = (mStore S 8 th 3 0).L.a,
 (3 : Int) = 3,
 mget S.M (key 8 th 3) = (mStore S 8 th 3 0).L.w,
 memIs S.M 8 th 3 0 = (mStore S 8 th 3 0).L.i,
 false = (mStore S 8 th 3 0).L.d,
 ∀ (k : List Int), memPut S.M 8 th 3 0 k = (mStore S 8 th 3 0).M k,
 (0 : Nat) = 0,
 (dPut (dOf n g) 8 th 3 0).n = (rStore (mkR n g s2 L2) 8 th 3 0).D.n,
 (none : Option Nat) = none,
 IntKind.i64.wrap (s2 + 1) = (rStore (mkR n g s2 L2) 8 th 3 0).st,
 (2 : Int) = 2,
 (8 : Int) = 8,
 th = (rStore (mkR n g s2 L2) 8 th 3 0).L.a,
 (3 : Int) = 3,
 dWord (dOf n g) 8 th 3 = (rStore (mkR n g s2 L2) 8 th 3 0).L.w,
 dWord (dPut (dOf n g) 8 th 3 0) 8 th 3 = (rStore (mkR n g s2 L2) 8 th 3 0).L.i,
 false = (rStore (mkR n g s2 L2) 8 th 3 0).L.d,
 false = false,
 (rStore (mkR n g s2 L2) 8 th 3 0).D.n ≤ (dPut (dOf n g) 8 th 3 0).n,
 wdF (rStore (mkR n g s2 L2) 8 th 3 0).D.W = wdF (dPut (dOf n g) 8 th 3 0).W ∧ plainSh wSh = true ∨ ∀ (i : Nat), i < (rStore (mkR n g s2 L2) 8 th 3 0).D.n → rowOb wSh 0 (wdF (dPut (dOf n g) 8 th 3 0).W i) (wdF (rStore (mkR n g s2 L2) 8 th 3 0).D.W i),
 (0 : Int) ≤ (8 : Int),
 n ≤ l,
 n ≤ 100000,
 (0 : Int) ≤ (8 : Int)]) := by kernel_rfl
theorem epx1_loc (e th t2 b : Int) (mv : Bool) (S : MS) (n l : Nat) (g : Nat → Nat → AV) (s2 : Int) (L2 : LS) : LocOk Try.prog 65 [.agg [.nilp, .ptr 1 0 0, .nilp, .ptr 2 0 0], .agg [.ptr 3 0 0, .ptr 5 0 0]] (epx1H e th t2 b mv S n l g s2 L2) (epx1R e th t2 b mv S n l g s2 L2) := by
  refine loc_of_call EEp_ok (fun hp => ?_)
  have hl : n ≤ l := hp _ (List.mem_cons_self ..)
  have hm : n ≤ 100000 := hp _ (List.mem_cons_of_mem _ (List.mem_cons_self ..))
  have hb : Both S (mkR n g s2 L2) := hp _ (List.mem_cons_of_mem _ (List.mem_cons_of_mem _ (List.mem_cons_self ..)))
  have hu : ∀ k, 0 ≤ mget S.M k ∧ mget S.M k < 18446744073709551616 := hp _ (List.mem_cons_of_mem _ (List.mem_cons_of_mem _ (List.mem_cons_of_mem _ (List.mem_cons_self ..))))
  clear hp
  refine ⟨3000, _, _, _, epx1_1 .., (ob_cons rfl (ob_cons rfl (ob_cons rfl (ob_cons rfl (ob_cons rfl (ob_cons rfl (ob_cons ?_ (ob_cons rfl (ob_cons rfl (ob_cons ?_ (ob_cons rfl (ob_cons ?_ (ob_cons ?_ (ob_cons ?_ (ob_cons ?_ (ob_cons rfl (ob_cons ?_ (ob_cons rfl (ob_cons ?_ (ob_cons rfl (ob_cons rfl (ob_cons ?_ (ob_cons rfl (ob_cons ?_ (ob_cons ?_ (ob_cons ?_ (ob_cons rfl (ob_cons ?_ (ob_cons ?_ (ob_cons (by decide) (ob_cons ?_ (ob_cons ?_ (ob_cons (by decide) ob_nil)))))))))))))))))))))))))))))))))⟩
  · exact rfl
  · exact rfl
  · exact rfl
  · exact rfl
  · exact rfl
  · exact fun _ => rfl
  · exact rfl
  · exact rfl
  · exact rfl
  · exact rfl
  · exact rfl
  · exact rfl
  · exact Nat.le_refl _
  · exact .inr (fun i hi => row_wd rfl)
  · exact hl
  · omega
theorem epa0_1 (e th t2 b : Int) (mv : Bool) (S : MS) (n l : Nat) (g : Nat → Nat → AV) (s2 : Int) (L2 : LS) : callB EEp 3000 65 [AV.agg [AV.nilp, AV.nilp, AV.ptr 1 0 0, AV.ptr 2 0 0], AV.agg [AV.ptr 3 0 0, AV.ptr 5 0 0]] (epa0H e th t2 b mv S n l g s2 L2) (epa0R e th t2 b mv S n l g s2 L2) [(7, Src.nm 6)] [] =
 some ([((mv == mv) == true) = true,
 e = e,
 th = th,
 4 * b = 4 * b,
 mv = mv,
 th = th,
 mv = mv,
 e = e,
 b = b,
 S.st = S.st,
 S.L.c = S.L.c,
 S.L.k = S.L.k,
 S.L.a = S.L.a,
 S.L.f = S.L.f,
 S.L.w = S.L.w,
 S.L.i = S.L.i,
 S.L.d = S.L.d,
 ∀ (k : List Int), S.M k = S.M k,
 (0 : Nat) = 0,
 n = (mkR n g s2 L2).D.n,
 (none : Option Nat) = none,
 s2 = (mkR n g s2 L2).st,
 L2.c = (mkR n g s2 L2).L.c,
 L2.k = (mkR n g s2 L2).L.k,
 L2.a = (mkR n g s2 L2).L.a,
 L2.f = (mkR n g s2 L2).L.f,
 L2.w = (mkR n g s2 L2).L.w,
 L2.i = (mkR n g s2 L2).L.i,
 L2.d = (mkR n g s2 L2).L.d,
 false = false,
 (mkR n g s2 L2).D.n ≤ l,
 wdF (mkR n g s2 L2).D.W = g ∧ plainSh wSh = true ∨ ∀ (i : Nat), i < (mkR n g s2 L2).D.n → rowOb wSh 0 (g i) (wdF (mkR n g s2 L2).D.W i)]) := by kernel_rfl
theorem epa0_loc (e th t2 b : Int) (mv : Bool) (S : MS) (n l : Nat) (g : Nat → Nat → AV) (s2 : Int) (L2 : LS) : LocOk Try.prog 65 [.agg [.nilp, .nilp, .ptr 1 0 0, .ptr 2 0 0], .agg [.ptr 3 0 0, .ptr 5 0 0]] (epa0H e th t2 b mv S n l g s2 L2) (epa0R e th t2 b mv S n l g s2 L2) := by
  refine loc_of_call EEp_ok (fun hp => ?_)
  have hl : n ≤ l := hp _ (List.mem_cons_self ..)
  have hm : n ≤ 100000 := hp _ (List.mem_cons_of_mem _ (List.mem_cons_self ..))
  have hb : Both S (mkR n g s2 L2) := hp _ (List.mem_cons_of_mem _ (List.mem_cons_of_mem _ (List.mem_cons_self ..)))
  have hu : ∀ k, 0 ≤ mget S.M k ∧ mget S.M k < 18446744073709551616 := hp _ (List.mem_cons_of_mem _ (List.mem_cons_of_mem _ (List.mem_cons_of_mem _ (List.mem_cons_self ..))))
  clear hp
  refine ⟨3000, _, _, _, epa0_1 .., (ob_cons ?_ (ob_cons rfl (ob_cons rfl (ob_cons rfl (ob_cons rfl (ob_cons rfl (ob_cons rfl (ob_cons rfl (ob_cons rfl (ob_cons rfl (ob_cons rfl (ob_cons rfl (ob_cons rfl (ob_cons rfl (ob_cons rfl (ob_cons rfl (ob_cons rfl (ob_cons (fun _ => rfl) (ob_cons rfl (ob_cons ?_ (ob_cons rfl (ob_cons ?_ (ob_cons ?_ (ob_cons ?_ (ob_cons ?_ (ob_cons ?_ (ob_cons ?_ (ob_cons ?_ (ob_cons ?_ (ob_cons rfl (ob_cons ?_ (ob_cons ?_ ob_nil))))))))))))))))))))))))))))))))⟩
  · (simp; done)
  · exact rfl
  · exact rfl
  · exact rfl
  · exact rfl
  · exact rfl
  · exact rfl
  · exact rfl
  · exact rfl
  · exact rfl
  · exact hl
  · exact .inr (fun i hi => row_wd rfl)
theorem epa1_1 (e th t2 b : Int) (mv : Bool) (S : MS) (n l : Nat) (g : Nat → Nat → AV) (s2 : Int) (L2 : LS) : callB EEp 3000 65 [AV.agg [AV.nilp, AV.nilp, AV.ptr 1 0 0, AV.ptr 2 0 0], AV.agg [AV.ptr 3 0 0, AV.ptr 5 0 0]] (epa1H e th t2 b mv S n l g s2 L2) (epa1R e th t2 b mv S n l g s2 L2) [(7, Src.nm 6)] [] =
 some ([((mv == mv) == true) = true,
 mget S.M (key 1 0 0) = mget S.M (key 1 0 0),
 th = th,
 4 * b = 4 * b,
 mv = mv,
 th = th,
 mv = mv,
 dWord (dOf n g) 1 0 0 = mget S.M (key 1 0 0),
 b = b,
 IntKind.i64.wrap (S.st + 1) = (mLoad S 1 0 0).st,
 (1 : Int) = 1,
 (1 : Int) = 1,
 (0 : Int) = 0,
 (0 : Int) = 0,
 mget S.M (key 1 0 0) = (mLoad S 1 0 0).L.w,
 mget S.M (key 1 0 0) = (mLoad S 1 0 0).L.i,
 false = (mLoad S 1 0 0).L.d,
 ∀ (k : List Int), S.M k = (mLoad S 1 0 0).M k,
 (0 : Nat) = 0,
 n = (rLoad (mkR n g s2 L2) 1 0 0).D.n,
 (none : Option Nat) = none,
 IntKind.i64.wrap (s2 + 1) = (rLoad (mkR n g s2 L2) 1 0 0).st,
 (1 : Int) = 1,
 (1 : Int) = 1,
 (0 : Int) = 0,
 (0 : Int) = 0,
 dWord (dOf n g) 1 0 0 = (rLoad (mkR n g s2 L2) 1 0 0).L.w,
 dWord (dOf n g) 1 0 0 = (rLoad (mkR n g s2 L2) 1 0 0).L.i,
 false = (rLoad (mkR n g s2 L2) 1 0 0).L.d,
 false = false,
 (rLoad (mkR n g s2 L2) 1 0 0).D.n ≤ l,
 wdF (rLoad (mkR n g s2 L2) 1 0 0).D.W = g ∧ plainSh wSh = true ∨ ∀ (i : Nat), i < (rLoad (mkR n g s2 L2) 1 0 0).D.n → rowOb wSh 0 (g i) (wdF (rLoad (mkR n g s2 L2) 1 0 0).D.W i),
 n ≤ l,
 n ≤ 1000000]) := by kernel_rfl
theorem epa1_loc (e th t2 b : Int) (mv : Bool) (S : MS) (n l : Nat) (g : Nat → Nat → AV) (s2 : Int) (L2 : LS) : LocOk Try.prog 65 [.agg [.nilp, .nilp, .ptr 1 0 0, .ptr 2 0 0], .agg [.ptr 3 0 0, .ptr 5 0 0]] (epa1H e th t2 b mv S n l g s2 L2) (epa1R e th t2 b mv S n l g s2 L2) := by
  refine loc_of_call EEp_ok (fun hp => ?_)
  have hl : n ≤ l := hp _ (List.mem_cons_self ..)
  have hm : n ≤ 100000 := hp _ (List.mem_cons_of_mem _ (List.mem_cons_self ..))
  have hb : Both S (mkR n g s2 L2) := hp _ (List.mem_cons_of_mem _ (List.mem_cons_of_mem _ (List.mem_cons_self ..)))
  have hu : ∀ k, 0 ≤ mget S.M k ∧ mget S.M k < 18446744073709551616 := hp _ (List.mem_cons_of_mem _ (List.mem_cons_of_mem _ (List.mem_cons_of_mem _ (List.mem_cons_self ..))))
  clear hp
  refine ⟨3000, _, _, _, epa1_1 .., (ob_cons ?_ (ob_cons rfl (ob_cons rfl (ob_cons rfl (ob_cons rfl (ob_cons rfl (ob_cons rfl (ob_cons ?_ (ob_cons rfl (ob_cons ?_ (ob_cons rfl (ob_cons rfl (ob_cons rfl (ob_cons rfl (ob_cons ?_ (ob_cons ?_ (ob_cons ?_ (ob_cons ?_ (ob_cons rfl (ob_cons ?_ (ob_cons rfl (ob_cons ?_ (ob_cons rfl (ob_cons rfl (ob_cons rfl (ob_cons rfl (ob_cons ?_ (ob_cons ?_ (ob_cons ?_ (ob_cons rfl (ob_cons ?_ (ob_cons ?_ (ob_cons ?_ (ob_cons ?_ ob_nil))))))))))))))))))))))))))))))))))⟩
  · (simp; done)
  · exact (hb.agr _ _ _).symm
  · exact rfl
  · exact rfl
  · exact rfl
  · exact rfl
  · exact fun _ => rfl
  · exact rfl
  · exact rfl
  · exact rfl
  · exact rfl
  · exact rfl
  · exact hl
  · exact .inr (fun i hi => row_wd rfl)
  · exact hl
  · omega
theorem epa4_1 (e th t2 b : Int) (mv : Bool) (S : MS) (n l : Nat) (g : Nat → Nat → AV) (s2 : Int) (L2 : LS) : callB EEp 3000 65 [AV.agg [AV.nilp, AV.nilp, AV.ptr 1 0 0, AV.ptr 2 0 0], AV.agg [AV.ptr 3 0 0, AV.ptr 5 0 0]] (epa4H e th t2 b mv S n l g s2 L2) (epa4R e th t2 b mv S n l g s2 L2) [(7, Src.nm 2455042955922106402509892272620699364162481534532298592112468526072100347303505916162452569244428117863165013095670053256912942409414044789996395692031)] [] =
 some ([((casD S.M 1 0 0 e == dCasD (dOf n g) 1 0 0 e) == true) = true,
 e = e,
 th = th,
 4 * b = 4 * b,
 casD S.M 1 0 0 e = casD S.M 1 0 0 e,
 th = th,
 dCasD (dOf n g) 1 0 0 e = casD S.M 1 0 0 e,
 e = e,
 b = b,
 IntKind.i64.wrap (S.st + 1) = (mCas S 1 0 0 e (IntKind.u64.wrap (e + 1))).st,
 (3 : Int) = 3,
 (1 : Int) = 1,
 (0 : Int) = 0,
 (0 : Int) = 0,
 mget S.M (key 1 0 0) = (mCas S 1 0 0 e (IntKind.u64.wrap (e + 1))).L.w,
 casI S.M 1 0 0 e (IntKind.u64.wrap (e + 1)) = (mCas S 1 0 0 e (IntKind.u64.wrap (e + 1))).L.i,
 casD S.M 1 0 0 e = (mCas S 1 0 0 e (IntKind.u64.wrap (e + 1))).L.d,
 ∀ (k : List Int), casM S.M 1 0 0 e (IntKind.u64.wrap (e + 1)) k = (mCas S 1 0 0 e (IntKind.u64.wrap (e + 1))).M k,
 (0 : Nat) = 0,
 (dCasM (dOf n g) 1 0 0 e (IntKind.u64.wrap (e + 1))).n = (rCas (mkR n g s2 L2) 1 0 0 e (IntKind.u64.wrap (e + 1))).D.n,
 (none : Option Nat) = none,
 IntKind.i64.wrap (s2 + 1) = (rCas (mkR n g s2 L2) 1 0 0 e (IntKind.u64.wrap (e + 1))).st,
 (3 : Int) = 3,
 (1 : Int) = 1,
 (0 : Int) = 0,
 (0 : Int) = 0,
 dWord (dOf n g) 1 0 0 = (rCas (mkR n g s2 L2) 1 0 0 e (IntKind.u64.wrap (e + 1))).L.w,
 dWord (dCasM (dOf n g) 1 0 0 e (IntKind.u64.wrap (e + 1))) 1 0 0 = (rCas (mkR n g s2 L2) 1 0 0 e (IntKind.u64.wrap (e + 1))).L.i,
 dCasD (dOf n g) 1 0 0 e = (rCas (mkR n g s2 L2) 1 0 0 e (IntKind.u64.wrap (e + 1))).L.d,
 false = false,
 (rCas (mkR n g s2 L2) 1 0 0 e (IntKind.u64.wrap (e + 1))).D.n ≤ (dCasM (dOf n g) 1 0 0 e (IntKind.u64.wrap (e + 1))).n,
 wdF (rCas (mkR n g s2 L2) 1 0 0 e (IntKind.u64.wrap (e + 1))).D.W = wdF (dCasM (dOf n g) 1 0 0 e (IntKind.u64.wrap (e + 1))).W ∧ plainSh wSh = true ∨ ∀ (i : Nat), i < (rCas (mkR n g s2 L2) 1 0 0 e (IntKind.u64.wrap (e + 1))).D.n → rowOb wSh 0 (wdF (dCasM (dOf n g) 1 0 0 e (IntKind.u64.wrap (e + 1))).W i) (wdF (rCas (mkR n g s2 L2) 1 0 0 e (IntKind.u64.wrap (e + 1))).D.W i),
 (0 : Int) ≤ (1 : Int),
 n ≤ l,
 n ≤ 100000,
 (0 : Int) ≤ (1 : Int)]) := by kernel_rfl
theorem epa4_loc (e th t2 b : Int) (mv : Bool) (S : MS) (n l : Nat) (g : Nat → Nat → AV) (s2 : Int) (L2 : LS) : LocOk Try.prog 65 [.agg [.nilp, .nilp, .ptr 1 0 0, .ptr 2 0 0], .agg [.ptr 3 0 0, .ptr 5 0 0]] (epa4H e th t2 b mv S n l g s2 L2) (epa4R e th t2 b mv S n l g s2 L2) := by
  refine loc_of_call EEp_ok (fun hp => ?_)
  have hl : n ≤ l := hp _ (List.mem_cons_self ..)
  have hm : n ≤ 100000 := hp _ (List.mem_cons_of_mem _ (List.mem_cons_self ..))
  have hb : Both S (mkR n g s2 L2) := hp _ (List.mem_cons_of_mem _ (List.mem_cons_of_mem _ (List.mem_cons_self ..)))
  have hu : ∀ k, 0 ≤ mget S.M k ∧ mget S.M k < 18446744073709551616 := hp _ (List.mem_cons_of_mem _ (List.mem_cons_of_mem _ (List.mem_cons_of_mem _ (List.mem_cons_self ..))))
  clear hp
  have w1 : dCasD (dOf n g) 1 0 0 e = casD S.M 1 0 0 e := (hb.agr.casD _ _ _ _).symm
  refine ⟨3000, _, _, _, epa4_1 .., (ob_cons ?_ (ob_cons rfl (ob_cons rfl (ob_cons rfl (ob_cons rfl (ob_cons rfl (ob_cons ?_ (ob_cons rfl (ob_cons rfl (ob_cons ?_ (ob_cons rfl (ob_cons rfl (ob_cons rfl (ob_cons rfl (ob_cons ?_ (ob_cons ?_ (ob_cons ?_ (ob_cons ?_ (ob_cons rfl (ob_cons ?_ (ob_cons rfl (ob_cons ?_ (ob_cons rfl (ob_cons rfl (ob_cons rfl (ob_cons rfl (ob_cons ?_ (ob_cons ?_ (ob_cons ?_ (ob_cons rfl (ob_cons ?_ (ob_cons ?_ (ob_cons (by decide) (ob_cons ?_ (ob_cons ?_ (ob_cons (by decide) ob_nil))))))))))))))))))))))))))))))))))))⟩
  · (rw [w1]; simp; done)
  · omega
  · exact rfl
  · exact rfl
  · exact rfl
  · exact rfl
  · exact fun _ => rfl
  · exact rfl
  · exact rfl
  · exact rfl
  · exact rfl
  · exact rfl
  · exact Nat.le_refl _
  · exact .inr (fun i hi => row_wd rfl)
  · exact hl
  · omega
end Go.Proofs.Ytephpkfajobhmaa
