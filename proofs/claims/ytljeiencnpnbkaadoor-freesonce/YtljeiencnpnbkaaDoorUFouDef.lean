/-
  UFouDef and what follows it.
-/
import Derived.Test.YtljeiencnpnbkaaDoorUFot
/-
  FreesOnce: listed, a contract: definitions.
-/
set_option linter.unusedSimpArgs false
set_option linter.unusedVariables false
namespace Go.Proofs.YtljeiencnpnbkaaDoor
open Go.Ev

noncomputable def li1H (S : MS) (kk : Nat) (FT : Nat → Nat → AV) : List (Nat × AO) := [(gnm 0, .arr tab.length (tab.map kindOfV) true 1 FT), (1, .cells 9 (.map 2 :: lsL S.st S.L)), (2, .map 110 S.M)]
noncomputable def li1R (S : MS) (kk : Nat) (FT : Nat → Nat → AV) : LR := ⟨2, .tup [.ss 1 3 0 kk none, .bool true], [(gnm 0, .arr tab.length (tab.map kindOfV) true 1 FT), (1, .cells 9 (.map 2 :: lsL (lsM S kk).st (lsM S kk).L)), (2, .map 110 (lsM S kk).M), (3, .arr 1 [.int .i64] false kk (LF (lsT S)))], 1, [1, 2], [FT = tabF tab, U64 S, kk ≤ 60, ∀ i, i < kk → 0 ≤ lsT S i, lsT S kk < 0]⟩
end Go.Proofs.YtljeiencnpnbkaaDoor

/-
  FreesOnce: listed, a contract.
-/
set_option linter.unusedSimpArgs false
set_option linter.unusedVariables false
namespace Go.Proofs.YtljeiencnpnbkaaDoor
open Go.Ev
theorem li1_1 (S : MS) (kk : Nat) : callB EFo 2000 46 [AV.ptr 1 0 0] (li1H S kk (tabF tab)) (li1R S kk (tabF tab)) [(3, Src.nm 3)] [Hint.lp [0, 4, 5] (Ex.exit 0) (fotX S kk kk).tmps (fotX S kk kk).hp.heap 4 [1, 2], Hint.b true] =
 some ([(0 : Nat) = 0,
 kk = kk,
 (none : Option Nat) = none,
 true = true,
 (1 : Nat) ≤ (1 : Nat),
 tabF tab = tabF tab ∧ plainSh (List.map kindOfV tab) = true ∨ ∀ (i : Nat), i < 1 → rowOb (List.map kindOfV tab) 0 (tabF tab i) (tabF tab i),
 (lsM S kk).st = (lsM S kk).st,
 (lsM S kk).L.c = (lsM S kk).L.c,
 (lsM S kk).L.k = (lsM S kk).L.k,
 (lsM S kk).L.a = (lsM S kk).L.a,
 (lsM S kk).L.f = (lsM S kk).L.f,
 (lsM S kk).L.w = (lsM S kk).L.w,
 (lsM S kk).L.i = (lsM S kk).L.i,
 (lsM S kk).L.d = (lsM S kk).L.d,
 ∀ (k : List Int), (lsM S kk).M k = (lsM S kk).M k,
 false = false,
 kk ≤ kk,
 LF (lsT S) = LF (lsT S) ∧ plainSh [CK.int IntKind.i64] = true ∨ ∀ (i : Nat), i < kk → rowOb [CK.int IntKind.i64] 0 (LF (lsT S) i) (LF (lsT S) i),
 fotLP S kk,
 TabIs tab (tabF tab),
 0 ≤ mget S.M (key 0 0 0),
 mget S.M (key 0 0 0) < 18446744073709551616]) := by kernel_rfl
theorem li1_loc (S : MS) (kk : Nat) (FT : Nat → Nat → AV) : LocOk Tryd.prog 46 [.ptr 1 0 0] (li1H S kk FT) (li1R S kk FT) := by
  refine loc_of_call EFo_ok (fun hp => ?_)
  have hFT : FT = tabF tab := hp _ (List.mem_cons_self ..)
  have hS : U64 S := hp _ (List.mem_cons_of_mem _ (List.mem_cons_self ..))
  have hk : kk ≤ 60 := hp _ (List.mem_cons_of_mem _ (List.mem_cons_of_mem _ (List.mem_cons_self ..)))
  have hT : ∀ i, i < kk → 0 ≤ lsT S i := hp _ (List.mem_cons_of_mem _ (List.mem_cons_of_mem _ (List.mem_cons_of_mem _ (List.mem_cons_self ..))))
  have hE : lsT S kk < 0 := hp _ (List.mem_cons_of_mem _ (List.mem_cons_of_mem _ (List.mem_cons_of_mem _ (List.mem_cons_of_mem _ (List.mem_cons_self ..)))))
  clear hp
  subst hFT
  have hlp := fot_lp S kk hS hk hT hE
  refine ⟨2000, _, _, _, li1_1 .., (ob_cons rfl (ob_cons rfl (ob_cons rfl (ob_cons rfl (ob_cons (Nat.le_refl _) (ob_cons (.inl ⟨rfl, rfl⟩) (ob_cons rfl (ob_cons rfl (ob_cons rfl (ob_cons rfl (ob_cons rfl (ob_cons rfl (ob_cons rfl (ob_cons rfl (ob_cons (fun _ => rfl) (ob_cons rfl (ob_cons (Nat.le_refl _) (ob_cons (.inl ⟨rfl, rfl⟩) (ob_cons ?_ (ob_cons (tabIs_self _) (ob_cons ?_ (ob_cons ?_ ob_nil))))))))))))))))))))))⟩
  ·
    first | with_reducible assumption | exact hlp | exact (hS _).1 | exact (hS _).2 | exact rfl | exact fun _ => rfl | exact .inl ⟨rfl, rfl⟩ | exact tabIs_self _ | (simp; done) | (simp; omega) | omega | trivial
  ·
    first | with_reducible assumption | exact hlp | exact (hS _).1 | exact (hS _).2 | exact rfl | exact fun _ => rfl | exact .inl ⟨rfl, rfl⟩ | exact tabIs_self _ | (simp; done) | (simp; omega) | omega | exact Nat.le_refl _ | omega
  ·
    first | with_reducible assumption | exact hlp | exact (hS _).1 | exact (hS _).2 | exact rfl | exact fun _ => rfl | exact .inl ⟨rfl, rfl⟩ | exact tabIs_self _ | (simp; done) | (simp; omega) | omega | omega
end Go.Proofs.YtljeiencnpnbkaaDoor
