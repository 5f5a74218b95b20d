/-
  ErasPlay: steps.
-/
import Derived.Test.YtephpkfajobhmaaWEr4Def
set_option linter.unusedSimpArgs false
set_option linter.unusedVariables false
namespace Go.Proofs.Ytephpkfajobhmaa
open Go.Ev
theorem erb0_1 (th hi nw e : Int) (dn : Bool) (S : MS) (n l : Nat) (g : Nat → Nat → AV) (s2 : Int) (L2 : LS) : callB EEr 3000 71 [AV.agg [AV.nilp, AV.nilp, AV.nilp, AV.ptr 1 0 0, AV.ptr 2 0 0], AV.agg [AV.ptr 3 0 0, AV.ptr 5 0 0]] (erb0H th hi nw e dn S n l g s2 L2) (erb0R th hi nw e dn S n l g s2 L2) [(7, Src.nm 6)] [] =
 some ([((dn == dn) == true) = true,
 e = e,
 dn = dn,
 th = th,
 hi = hi,
 dn = dn,
 e = e,
 S.st = S.st,
 S.L.c = S.L.c,
 S.L.k = S.L.k,
 S.L.a = S.L.a,
 S.L.f = S.L.f,
 S.L.w = S.L.w,
 S.L.i = S.L.i,
 S.L.d = S.L.d,
 ∀ (k : List Int), S.M k = S.M k,
 (0 : Nat) = 0,
 n = (mkR n g s2 L2).D.n,
 (none : Option Nat) = none,
 s2 = (mkR n g s2 L2).st,
 L2.c = (mkR n g s2 L2).L.c,
 L2.k = (mkR n g s2 L2).L.k,
 L2.a = (mkR n g s2 L2).L.a,
 L2.f = (mkR n g s2 L2).L.f,
 L2.w = (mkR n g s2 L2).L.w,
 L2.i = (mkR n g s2 L2).L.i,
 L2.d = (mkR n g s2 L2).L.d,
 false = false,
 (mkR n g s2 L2).D.n ≤ l,
 wdF (mkR n g s2 L2).D.W = g ∧ plainSh wSh = true ∨ ∀ (i : Nat), i < (mkR n g s2 L2).D.n → rowOb wSh 0 (g i) (wdF (mkR n g s2 L2).D.W i)]) := by kernel_rfl
theorem erb0_loc (th hi nw e : Int) (dn : Bool) (S : MS) (n l : Nat) (g : Nat → Nat → AV) (s2 : Int) (L2 : LS) : LocOk Try.prog 71 [.agg [.nilp, .nilp, .nilp, .ptr 1 0 0, .ptr 2 0 0], .agg [.ptr 3 0 0, .ptr 5 0 0]] (erb0H th hi nw e dn S n l g s2 L2) (erb0R th hi nw e dn S n l g s2 L2) := by
  refine loc_of_call EEr_ok (fun hp => ?_)
  have hl : n ≤ l := hp _ (List.mem_cons_self ..)
  have hm : n ≤ 100000 := hp _ (List.mem_cons_of_mem _ (List.mem_cons_self ..))
  have hb : Both S (mkR n g s2 L2) := hp _ (List.mem_cons_of_mem _ (List.mem_cons_of_mem _ (List.mem_cons_self ..)))
  have hu : ∀ k, 0 ≤ mget S.M k ∧ mget S.M k < 18446744073709551616 := hp _ (List.mem_cons_of_mem _ (List.mem_cons_of_mem _ (List.mem_cons_of_mem _ (List.mem_cons_self ..))))
  clear hp
  refine ⟨3000, _, _, _, erb0_1 .., (ob_cons ?_ (ob_cons rfl (ob_cons rfl (ob_cons rfl (ob_cons rfl (ob_cons rfl (ob_cons rfl (ob_cons rfl (ob_cons rfl (ob_cons rfl (ob_cons rfl (ob_cons rfl (ob_cons rfl (ob_cons rfl (ob_cons rfl (ob_cons (fun _ => rfl) (ob_cons rfl (ob_cons ?_ (ob_cons rfl (ob_cons ?_ (ob_cons ?_ (ob_cons ?_ (ob_cons ?_ (ob_cons ?_ (ob_cons ?_ (ob_cons ?_ (ob_cons ?_ (ob_cons rfl (ob_cons ?_ (ob_cons ?_ ob_nil))))))))))))))))))))))))))))))⟩
  · (simp; done)
  · exact rfl
  · exact rfl
  · exact rfl
  · exact rfl
  · exact rfl
  · exact rfl
  · exact rfl
  · exact rfl
  · exact rfl
  · assumption
  · exact .inr (fun i hi => row_wd rfl)
theorem erb2_1 (th hi nw e : Int) (dn : Bool) (S : MS) (n l : Nat) (g : Nat → Nat → AV) (s2 : Int) (L2 : LS) : callB EEr 3000 71 [AV.agg [AV.nilp, AV.nilp, AV.nilp, AV.ptr 1 0 0, AV.ptr 2 0 0], AV.agg [AV.ptr 3 0 0, AV.ptr 5 0 0]] (erb2H th hi nw e dn S n l g s2 L2) (erb2R th hi nw e dn S n l g s2 L2) [(7, Src.nm 6)] [] =
 some ([((dn == dn) == true) = true,
 mget S.M (key 2 0 0) = mget S.M (key 2 0 0),
 dn = dn,
 th = th,
 hi = hi,
 dn = dn,
 dWord (dOf n g) 2 0 0 = mget S.M (key 2 0 0),
 IntKind.i64.wrap (S.st + 1) = (mLoad S 2 0 0).st,
 (1 : Int) = 1,
 (2 : Int) = 2,
 (0 : Int) = 0,
 (0 : Int) = 0,
 mget S.M (key 2 0 0) = (mLoad S 2 0 0).L.w,
 mget S.M (key 2 0 0) = (mLoad S 2 0 0).L.i,
 false = (mLoad S 2 0 0).L.d,
 ∀ (k : List Int), S.M k = (mLoad S 2 0 0).M k,
 (0 : Nat) = 0,
 n = (rLoad (mkR n g s2 L2) 2 0 0).D.n,
 (none : Option Nat) = none,
 IntKind.i64.wrap (s2 + 1) = (rLoad (mkR n g s2 L2) 2 0 0).st,
 (1 : Int) = 1,
 (2 : Int) = 2,
 (0 : Int) = 0,
 (0 : Int) = 0,
 dWord (dOf n g) 2 0 0 = (rLoad (mkR n g s2 L2) 2 0 0).L.w,
 dWord (dOf n g) 2 0 0 = (rLoad (mkR n g s2 L2) 2 0 0).L.i,
 false = (rLoad (mkR n g s2 L2) 2 0 0).L.d,
 false = false,
 (rLoad (mkR n g s2 L2) 2 0 0).D.n ≤ l,
 wdF (rLoad (mkR n g s2 L2) 2 0 0).D.W = g ∧ plainSh wSh = true ∨ ∀ (i : Nat), i < (rLoad (mkR n g s2 L2) 2 0 0).D.n → rowOb wSh 0 (g i) (wdF (rLoad (mkR n g s2 L2) 2 0 0).D.W i),
 n ≤ l,
 n ≤ 1000000]) := by kernel_rfl
theorem erb2_loc (th hi nw e : Int) (dn : Bool) (S : MS) (n l : Nat) (g : Nat → Nat → AV) (s2 : Int) (L2 : LS) : LocOk Try.prog 71 [.agg [.nilp, .nilp, .nilp, .ptr 1 0 0, .ptr 2 0 0], .agg [.ptr 3 0 0, .ptr 5 0 0]] (erb2H th hi nw e dn S n l g s2 L2) (erb2R th hi nw e dn S n l g s2 L2) := by
  refine loc_of_call EEr_ok (fun hp => ?_)
  have hl : n ≤ l := hp _ (List.mem_cons_self ..)
  have hm : n ≤ 100000 := hp _ (List.mem_cons_of_mem _ (List.mem_cons_self ..))
  have hb : Both S (mkR n g s2 L2) := hp _ (List.mem_cons_of_mem _ (List.mem_cons_of_mem _ (List.mem_cons_self ..)))
  have hu : ∀ k, 0 ≤ mget S.M k ∧ mget S.M k < 18446744073709551616 := hp _ (List.mem_cons_of_mem _ (List.mem_cons_of_mem _ (List.mem_cons_of_mem _ (List.mem_cons_self ..))))
  clear hp
  refine ⟨3000, _, _, _, erb2_1 .., (ob_cons ?_ (ob_cons rfl (ob_cons rfl (ob_cons rfl (ob_cons rfl (ob_cons rfl (ob_cons ?_ (ob_cons ?_ (ob_cons rfl (ob_cons rfl (ob_cons rfl (ob_cons rfl (ob_cons ?_ (ob_cons ?_ (ob_cons ?_ (ob_cons ?_ (ob_cons rfl (ob_cons ?_ (ob_cons rfl (ob_cons ?_ (ob_cons rfl (ob_cons rfl (ob_cons rfl (ob_cons rfl (ob_cons ?_ (ob_cons ?_ (ob_cons ?_ (ob_cons rfl (ob_cons ?_ (ob_cons ?_ (ob_cons ?_ (ob_cons ?_ ob_nil))))))))))))))))))))))))))))))))⟩
  · (simp; done)
  · exact (hb.agr _ _ _).symm
  · exact rfl
  · exact rfl
  · exact rfl
  · exact rfl
  · exact fun _ => rfl
  · exact rfl
  · exact rfl
  · exact rfl
  · exact rfl
  · exact rfl
  · assumption
  · exact .inr (fun i hi => row_wd rfl)
  · assumption
  · omega
theorem erb1_1 (th hi nw e : Int) (dn : Bool) (S : MS) (n l : Nat) (g : Nat → Nat → AV) (s2 : Int) (L2 : LS) : callB EEr 3000 71 [AV.agg [AV.nilp, AV.nilp, AV.nilp, AV.ptr 1 0 0, AV.ptr 2 0 0], AV.agg [AV.ptr 3 0 0, AV.ptr 5 0 0]] (erb1H th hi nw e dn S n l g s2 L2) (erb1R th hi nw e dn S n l g s2 L2) [(7, Src.nm 2455042955922106402509892272620699364162481534532298592112468526072100347303505916162452569244428117863165013095670053256912942409414044789996395692032)] [] =
 some ([((casD S.M 2 0 0 e == dCasD (dOf n g) 2 0 0 e) == true) = true,
 e = e,
 casD S.M 2 0 0 e = casD S.M 2 0 0 e,
 th = th,
 hi = hi,
 dCasD (dOf n g) 2 0 0 e = casD S.M 2 0 0 e,
 e = e,
 IntKind.i64.wrap (S.st + 1) = (mCas S 2 0 0 e (IntKind.u64.wrap (e + 1))).st,
 (3 : Int) = 3,
 (2 : Int) = 2,
 (0 : Int) = 0,
 (0 : Int) = 0,
 mget S.M (key 2 0 0) = (mCas S 2 0 0 e (IntKind.u64.wrap (e + 1))).L.w,
 casI S.M 2 0 0 e (IntKind.u64.wrap (e + 1)) = (mCas S 2 0 0 e (IntKind.u64.wrap (e + 1))).L.i,
 casD S.M 2 0 0 e = (mCas S 2 0 0 e (IntKind.u64.wrap (e + 1))).L.d,
 ∀ (k : List Int), casM S.M 2 0 0 e (IntKind.u64.wrap (e + 1)) k = (mCas S 2 0 0 e (IntKind.u64.wrap (e + 1))).M k,
 (0 : Nat) = 0,
 (dCasM (dOf n g) 2 0 0 e (IntKind.u64.wrap (e + 1))).n = (rCas (mkR n g s2 L2) 2 0 0 e (IntKind.u64.wrap (e + 1))).D.n,
 (none : Option Nat) = none,
 IntKind.i64.wrap (s2 + 1) = (rCas (mkR n g s2 L2) 2 0 0 e (IntKind.u64.wrap (e + 1))).st,
 (3 : Int) = 3,
 (2 : Int) = 2,
 (0 : Int) = 0,
 (0 : Int) = 0,
 dWord (dOf n g) 2 0 0 = (rCas (mkR n g s2 L2) 2 0 0 e (IntKind.u64.wrap (e + 1))).L.w,
 dWord (dCasM (dOf n g) 2 0 0 e (IntKind.u64.wrap (e + 1))) 2 0 0 = (rCas (mkR n g s2 L2) 2 0 0 e (IntKind.u64.wrap (e + 1))).L.i,
 dCasD (dOf n g) 2 0 0 e = (rCas (mkR n g s2 L2) 2 0 0 e (IntKind.u64.wrap (e + 1))).L.d,
 false = false,
 (rCas (mkR n g s2 L2) 2 0 0 e (IntKind.u64.wrap (e + 1))).D.n ≤ (dCasM (dOf n g) 2 0 0 e (IntKind.u64.wrap (e + 1))).n,
 wdF (rCas (mkR n g s2 L2) 2 0 0 e (IntKind.u64.wrap (e + 1))).D.W = wdF (dCasM (dOf n g) 2 0 0 e (IntKind.u64.wrap (e + 1))).W ∧ plainSh wSh = true ∨ ∀ (i : Nat), i < (rCas (mkR n g s2 L2) 2 0 0 e (IntKind.u64.wrap (e + 1))).D.n → rowOb wSh 0 (wdF (dCasM (dOf n g) 2 0 0 e (IntKind.u64.wrap (e + 1))).W i) (wdF (rCas (mkR n g s2 L2) 2 0 0 e (IntKind.u64.wrap (e + 1))).D.W i),
 (0 : Int) ≤ (2 : Int),
 n ≤ l,
 n ≤ 100000,
 (0 : Int) ≤ (2 : Int)]) := by kernel_rfl
theorem erb1_loc (th hi nw e : Int) (dn : Bool) (S : MS) (n l : Nat) (g : Nat → Nat → AV) (s2 : Int) (L2 : LS) : LocOk Try.prog 71 [.agg [.nilp, .nilp, .nilp, .ptr 1 0 0, .ptr 2 0 0], .agg [.ptr 3 0 0, .ptr 5 0 0]] (erb1H th hi nw e dn S n l g s2 L2) (erb1R th hi nw e dn S n l g s2 L2) := by
  refine loc_of_call EEr_ok (fun hp => ?_)
  have hl : n ≤ l := hp _ (List.mem_cons_self ..)
  have hm : n ≤ 100000 := hp _ (List.mem_cons_of_mem _ (List.mem_cons_self ..))
  have hb : Both S (mkR n g s2 L2) := hp _ (List.mem_cons_of_mem _ (List.mem_cons_of_mem _ (List.mem_cons_self ..)))
  have hu : ∀ k, 0 ≤ mget S.M k ∧ mget S.M k < 18446744073709551616 := hp _ (List.mem_cons_of_mem _ (List.mem_cons_of_mem _ (List.mem_cons_of_mem _ (List.mem_cons_self ..))))
  clear hp
  have w1 : dCasD (dOf n g) 2 0 0 e = casD S.M 2 0 0 e := (hb.agr.casD _ _ _ _).symm
  refine ⟨3000, _, _, _, erb1_1 .., (ob_cons ?_ (ob_cons rfl (ob_cons rfl (ob_cons rfl (ob_cons rfl (ob_cons ?_ (ob_cons rfl (ob_cons ?_ (ob_cons rfl (ob_cons rfl (ob_cons rfl (ob_cons rfl (ob_cons ?_ (ob_cons ?_ (ob_cons ?_ (ob_cons ?_ (ob_cons rfl (ob_cons ?_ (ob_cons rfl (ob_cons ?_ (ob_cons rfl (ob_cons rfl (ob_cons rfl (ob_cons rfl (ob_cons ?_ (ob_cons ?_ (ob_cons ?_ (ob_cons rfl (ob_cons ?_ (ob_cons ?_ (ob_cons (by decide) (ob_cons ?_ (ob_cons ?_ (ob_cons (by decide) ob_nil))))))))))))))))))))))))))))))))))⟩
  · (rw [w1]; simp; done)
  · assumption
  · exact rfl
  · exact rfl
  · exact rfl
  · exact rfl
  · exact fun _ => rfl
  · exact rfl
  · exact rfl
  · exact rfl
  · exact rfl
  · exact rfl
  · exact Nat.le_refl _
  · exact .inr (fun i hi => row_wd rfl)
  · assumption
  · assumption
end Go.Proofs.Ytephpkfajobhmaa
