/-
  JPu and what follows it.
-/
import Derived.Test.YtmndhjodbnojdaaDoorJPuDef
/-
  taken: its contract.
-/
set_option linter.unusedSimpArgs false
set_option linter.unusedVariables false
namespace Go.Proofs.YtmndhjodbnojdaaDoor
open Go.Ev
theorem tkc_1 (t : Int) (S : MS) (kk : Nat) : callB ETk 2000 42 [AV.ptr 1 0 0, AV.sym IntKind.i64 t] (tkcH t S kk (tabF tab)) (tkcR t S kk (tabF tab)) [(3, Src.nm 7)] [Hint.lp [0, 1, 4, 5, 6, 7] (Ex.exit 0) (tklX t S kk (5 * kk + 1)).tmps (tklX t S kk (5 * kk + 1)).hp.heap 5 [3, 1, 2], Hint.b false, Hint.b false] =
 some ([(0 : Nat) = 0,
 teNX (tkIt S (5 * kk + 1)).n (tkIt S (5 * kk + 1)).o - 0 = kk,
 lessC (some (teNX (tkIt S (5 * kk + 1)).n (tkIt S (5 * kk + 1)).o)) 0 = some kk,
 decide ((teX (tkIt S (5 * kk + 1)).n (tkIt S (5 * kk + 1)).S (tkIt S (5 * kk + 1)).o).ln = 0) = true,
 true = true,
 (1 : Nat) ≤ (1 : Nat),
 tabF tab = tabF tab ∧ plainSh (List.map kindOfV tab) = true ∨ ∀ (i : Nat), i < 1 → rowOb (List.map kindOfV tab) 0 (tabF tab i) (tabF tab i),
 (teY (tkIt S (5 * kk + 1)).S (tkIt S (5 * kk + 1)).o).st = (tknY kk S).st,
 (teY (tkIt S (5 * kk + 1)).S (tkIt S (5 * kk + 1)).o).L.c = (tknY kk S).L.c,
 (teY (tkIt S (5 * kk + 1)).S (tkIt S (5 * kk + 1)).o).L.k = (tknY kk S).L.k,
 (teY (tkIt S (5 * kk + 1)).S (tkIt S (5 * kk + 1)).o).L.a = (tknY kk S).L.a,
 (teY (tkIt S (5 * kk + 1)).S (tkIt S (5 * kk + 1)).o).L.f = (tknY kk S).L.f,
 (teY (tkIt S (5 * kk + 1)).S (tkIt S (5 * kk + 1)).o).L.w = (tknY kk S).L.w,
 (teY (tkIt S (5 * kk + 1)).S (tkIt S (5 * kk + 1)).o).L.i = (tknY kk S).L.i,
 (teY (tkIt S (5 * kk + 1)).S (tkIt S (5 * kk + 1)).o).L.d = (tknY kk S).L.d,
 ∀ (k : List Int), (teY (tkIt S (5 * kk + 1)).S (tkIt S (5 * kk + 1)).o).M k = (tknY kk S).M k,
 false = false,
 kk ≤ teNX (tkIt S (5 * kk + 1)).n (tkIt S (5 * kk + 1)).o,
 (yF (tknE kk S) = fun i j => yF (teEX (tkIt S (5 * kk + 1)).n (fun i => yOf (yF (tkIt S (5 * kk + 1)).E i)) (tkIt S (5 * kk + 1)).S (tkIt S (5 * kk + 1)).o) (0 + i) j) ∧ plainSh ySh = true ∨ ∀ (i : Nat), i < kk → rowOb ySh 0 (fun j => yF (teEX (tkIt S (5 * kk + 1)).n (fun i => yOf (yF (tkIt S (5 * kk + 1)).E i)) (tkIt S (5 * kk + 1)).S (tkIt S (5 * kk + 1)).o) (0 + i) j) (yF (tknE kk S) i),
 (Nat.blt 0 (capOr (some (teNX (tkIt S (5 * kk + 1)).n (tkIt S (5 * kk + 1)).o)) (teNX (tkIt S (5 * kk + 1)).n (tkIt S (5 * kk + 1)).o)) || Nat.beq 0 0) = true,
 ((teNX (tkIt S (5 * kk + 1)).n (tkIt S (5 * kk + 1)).o).ble (capOr (some (teNX (tkIt S (5 * kk + 1)).n (tkIt S (5 * kk + 1)).o)) (teNX (tkIt S (5 * kk + 1)).n (tkIt S (5 * kk + 1)).o)) && decide (0 ≤ Int.ofNat (teNX (tkIt S (5 * kk + 1)).n (tkIt S (5 * kk + 1)).o))) = true,
 ((teNX (tkIt S (5 * kk + 1)).n (tkIt S (5 * kk + 1)).o).ble (capOr none (teNX (tkIt S (5 * kk + 1)).n (tkIt S (5 * kk + 1)).o)) && decide (0 ≤ Int.ofNat (teNX (tkIt S (5 * kk + 1)).n (tkIt S (5 * kk + 1)).o))) = true,
 (teNX (tkIt S (5 * kk + 1)).n (tkIt S (5 * kk + 1)).o).beq 0 = false,
 (teNX (tkIt S (5 * kk + 1)).n (tkIt S (5 * kk + 1)).o * 40).ble 70368744177664 = true,
 (0 + teNX (tkIt S (5 * kk + 1)).n (tkIt S (5 * kk + 1)).o).ble (teNX (tkIt S (5 * kk + 1)).n (tkIt S (5 * kk + 1)).o) = true,
 Nat.blt 0 (teNX (tkIt S (5 * kk + 1)).n (tkIt S (5 * kk + 1)).o) = true,
 (!(teX (tkIt S (5 * kk + 1)).n (tkIt S (5 * kk + 1)).S (tkIt S (5 * kk + 1)).o).ln == 0) = false,
 tabF tab = tabF tab,
 U64 (tkIt S (5 * kk + 1)).S,
 TLn (tkIt S (5 * kk + 1)).o.ln,
 R64 (tkIt S (5 * kk + 1)).o.h,
 (tkIt S (5 * kk + 1)).n ≤ (tkIt S (5 * kk + 1)).n ∧ (tkIt S (5 * kk + 1)).n ≤ 1000000,
 tklLP t S kk]) := by kernel_rfl
theorem tkc_loc (t : Int) (S : MS) (kk : Nat) (FT : Nat → Nat → AV) : LocOk Tryd.prog 42 [.ptr 1 0 0, .sym .i64 t] (tkcH t S kk FT) (tkcR t S kk FT) := by
  refine loc_of_call ETk_ok (fun hp => ?_)
  have hFT : FT = tabF tab := hp _ (List.mem_cons_self ..)
  have hm : TkAll kk S := hp _ (List.mem_cons_of_mem _ (List.mem_cons_self ..))
  have ht : t = Int.ofNat (5 * kk) + 2 := hp _ (List.mem_cons_of_mem _ (List.mem_cons_of_mem _ (List.mem_cons_self ..)))
  clear hp
  subst hFT
  have hlp := tkl_lp t S kk hm.u hm.k1 ht hm.no
  have hit := tkIt_ok hm.u (5 * kk + 1)
  have hn1 : (tkIt S (5 * kk + 1)).n ≤ 1000000 := by have := hit.2.2; have := hm.k1; omega
  have hov := hm.ov
  have hN : teNX (tkIt S (5 * kk + 1)).n (tkIt S (5 * kk + 1)).o = kk := hm.n
  have hk0 := hm.k0
  have hk1 := hm.k1
  refine ⟨2000, _, _, _, tkc_1 .., (ob_cons rfl (ob_cons ?_ (ob_cons ?_ (ob_cons ?_ (ob_cons rfl (ob_cons (Nat.le_refl _) (ob_cons (.inl ⟨rfl, rfl⟩) (ob_cons ?_ (ob_cons ?_ (ob_cons ?_ (ob_cons ?_ (ob_cons ?_ (ob_cons ?_ (ob_cons ?_ (ob_cons ?_ (ob_cons ?_ (ob_cons rfl (ob_cons ?_ (ob_cons ?_ (ob_cons ?_ (ob_cons ?_ (ob_cons ?_ (ob_cons ?_ (ob_cons ?_ (ob_cons ?_ (ob_cons ?_ (ob_cons ?_ (ob_cons rfl (ob_cons ?_ (ob_cons ?_ (ob_cons ?_ (ob_cons ?_ (ob_cons ?_ ob_nil)))))))))))))))))))))))))))))))))⟩
  · (rw [Nat.sub_zero]; exact hN)
  · (rw [hN]; rfl)
  · exact decide_eq_true hov
  · (rw [tknY_eq]; rfl)
  · (rw [tknY_eq]; rfl)
  · (rw [tknY_eq]; rfl)
  · (rw [tknY_eq]; rfl)
  · (rw [tknY_eq]; rfl)
  · (rw [tknY_eq]; rfl)
  · (rw [tknY_eq]; rfl)
  · (rw [tknY_eq]; rfl)
  · (rw [tknY_eq]; exact fun _ => rfl)
  · exact Nat.le_of_eq hN.symm
  · exact .inl ⟨by funext i j; rw [Nat.zero_add, tknE_eq]; rfl, rfl⟩
  · (rw [hN]; simp; done)
  · (rw [hN]; simp [capOr]; done)
  · (rw [hN]; simp [capOr]; done)
  · (rw [hN]; exact beq0 hk0)
  · (rw [hN]; simp; omega)
  · (rw [hN]; simp; done)
  · (rw [hN]; simp; omega)
  · exact notF (eqT hov)
  · exact hit.1
  · exact hit.2.1.l
  · exact hit.2.1.h
  · exact ⟨Nat.le_refl _, hn1⟩
  · exact hlp
end Go.Proofs.YtmndhjodbnojdaaDoor

/-
  taken: as an environment has it: definitions.
-/
set_option linter.unusedSimpArgs false
set_option linter.unusedVariables false
namespace Go.Proofs.YtmndhjodbnojdaaDoor
open Go.Ev

noncomputable def ETj : Env := envG Tryd.prog ([(17, tabSP 0 tab ashS)] ++ memSP)
theorem ETj_ok : EnvOk ETj := envG_ok mgood ⟨tabSP_ok rfl ashS_ok, memSP_ok⟩

noncomputable def tk0H (S : MS) (FT : Nat → Nat → AV) : List (Nat × AO) := [(gnm 0, .arr tab.length (tab.map kindOfV) true 1 FT), (1, .cells 9 (.map 2 :: lsL S.st S.L)), (2, .map 115 S.M)]
noncomputable def tk0R (S : MS) (FT : Nat → Nat → AV) : LR := ⟨2, .tup [.nils, .symb true], [(gnm 0, .arr tab.length (tab.map kindOfV) true 1 FT), (1, .cells 9 (.map 2 :: lsL (mLoad S 4 0 0).st (mLoad S 4 0 0).L)), (2, .map 115 (mLoad S 4 0 0).M)], 0, [1, 2], [FT = tabF tab, TkNone S]⟩
end Go.Proofs.YtmndhjodbnojdaaDoor
