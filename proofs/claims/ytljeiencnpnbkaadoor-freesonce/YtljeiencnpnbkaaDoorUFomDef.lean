/-
  UFomDef and what follows it.
-/
import Derived.Test.YtljeiencnpnbkaaDoorUFol
/-
  FreesOnce: filled, a contract: definitions.
-/
set_option linter.unusedSimpArgs false
set_option linter.unusedVariables false
namespace Go.Proofs.YtljeiencnpnbkaaDoor
open Go.Ev

noncomputable def fi1H (n : Nat) (FT : Nat → Nat → AV) : List (Nat × AO) := [(gnm 0, .arr tab.length (tab.map kindOfV) true 1 FT)]
noncomputable def fi1R (n : Nat) (FT : Nat → Nat → AV) : LR := ⟨0, .tup [.ptr 2 0 0, .bool true], [(gnm 0, .arr tab.length (tab.map kindOfV) true 1 FT), (2, .cells 9 (.map 1 :: lsL (fillS n).st (fillS n).L)), (1, .map 110 (fillS n).M)], 2, [2, 1], [FT = tabF tab, n ≤ 60]⟩
end Go.Proofs.YtljeiencnpnbkaaDoor

/-
  FreesOnce: filled, a contract.
-/
set_option linter.unusedSimpArgs false
set_option linter.unusedVariables false
namespace Go.Proofs.YtljeiencnpnbkaaDoor
open Go.Ev
theorem fi1_1 (n : Nat) : callB EFo 2000 42 [AV.sym IntKind.i64 (Int.ofNat n)] (fi1H n (tabF tab)) (fi1R n (tabF tab)) [(2, Src.nm 2), (1, Src.nm 1)] [Hint.lp [0, 4, 5] (Ex.exit 0) (folX n n).tmps (folX n n).hp.heap 3 [2, 1], Hint.b true] =
 some ([(0 : Nat) = 0,
 (0 : Nat) = 0,
 true = true,
 (1 : Nat) ≤ (1 : Nat),
 tabF tab = tabF tab ∧ plainSh (List.map kindOfV tab) = true ∨ ∀ (i : Nat), i < 1 → rowOb (List.map kindOfV tab) 0 (tabF tab i) (tabF tab i),
 (fillS n).st = (fillS n).st,
 (fillS n).L.c = (fillS n).L.c,
 (fillS n).L.k = (fillS n).L.k,
 (fillS n).L.a = (fillS n).L.a,
 (fillS n).L.f = (fillS n).L.f,
 (fillS n).L.w = (fillS n).L.w,
 (fillS n).L.i = (fillS n).L.i,
 (fillS n).L.d = (fillS n).L.d,
 ∀ (k : List Int), (fillS n).M k = (fillS n).M k,
 folLP n]) := by kernel_rfl
theorem fi1_loc (n : Nat) (FT : Nat → Nat → AV) : LocOk Tryd.prog 42 [.sym .i64 (Int.ofNat n)] (fi1H n FT) (fi1R n FT) := by
  refine loc_of_call EFo_ok (fun hp => ?_)
  have hFT : FT = tabF tab := hp _ (List.mem_cons_self ..)
  have hn : n ≤ 60 := hp _ (List.mem_cons_of_mem _ (List.mem_cons_self ..))
  clear hp
  subst hFT
  have hlp := fol_lp n hn
  refine ⟨2000, _, _, _, fi1_1 .., (ob_cons rfl (ob_cons rfl (ob_cons rfl (ob_cons (Nat.le_refl _) (ob_cons (.inl ⟨rfl, rfl⟩) (ob_cons rfl (ob_cons rfl (ob_cons rfl (ob_cons rfl (ob_cons rfl (ob_cons rfl (ob_cons rfl (ob_cons rfl (ob_cons (fun _ => rfl) (ob_cons ?_ ob_nil)))))))))))))))⟩
  ·
    first | with_reducible assumption | exact hlp | exact rfl | exact fun _ => rfl | exact .inl ⟨rfl, rfl⟩ | exact tabIs_self _ | (simp; done) | (simp; omega) | omega | trivial
end Go.Proofs.YtljeiencnpnbkaaDoor
