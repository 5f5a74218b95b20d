/-
  UFon and what follows it.
-/
import Derived.Test.YtljeiencnpnbkaaDoorUFomDef
import Derived.Test.YtljeiencnpnbkaaDoorUFpg
import Derived.Test.YtljeiencnpnbkaaDoorEvLoc2
/-
  FreesOnce: filled of a word.
-/
set_option linter.unusedSimpArgs false
set_option linter.unusedVariables false
namespace Go.Proofs.YtljeiencnpnbkaaDoor
open Go.Ev
noncomputable def filR (w : Int) (FT : Nat → Nat → AV) : LR := ⟨0, .tup [.ptr 2 0 0, .bool true], [(gnm 0, .arr tab.length (tab.map kindOfV) true 1 FT), (2, .cells 9 (.map 1 :: lsL (fillS w.toNat).st (fillS w.toNat).L)), (1, .map 110 (fillS w.toNat).M)], 2, [2, 1], [FT = tabF tab, 0 ≤ w, w ≤ 60]⟩
theorem fil_loc (w : Int) (FT : Nat → Nat → AV) : LocOk Tryd.prog 42 [.sym .i64 w] [(gnm 0, .arr tab.length (tab.map kindOfV) true 1 FT)] (filR w FT) := by
  unfold filR
  intro ρ xw hp hr hf hg xs hx
  have hFT : FT = tabF tab := hp _ (List.mem_cons_self ..)
  have h0 : 0 ≤ w := hp _ (List.mem_cons_of_mem _ (List.mem_cons_self ..))
  have h1 : w ≤ 60 := hp _ (List.mem_cons_of_mem _ (List.mem_cons_of_mem _ (List.mem_cons_self ..)))
  obtain ⟨n, rfl⟩ : ∃ n : Nat, w = Int.ofNat n := ⟨w.toNat, (Int.toNat_of_nonneg h0).symm⟩
  have hn : n ≤ 60 := by simp at h1; omega
  exact (fi1_loc n FT) ρ xw (ob_cons hFT (ob_cons hn ob_nil)) hr hf hg xs hx
noncomputable def filSpec : LSpec := fun la lh => match la, lh with
  | [.sym .i64 w], [(zt, .arr nt sht rot lent FT)] =>
    match Nat.beq zt (gnm 0) && (Nat.beq nt tab.length && (shBeq sht (tab.map kindOfV) && (rot && Nat.beq lent 1))) with
    | true => some (filR w FT)
    | false => none
  | _, _ => none
theorem filSpec_ok (la : List AV) (lh : List (Nat × AO)) (R : LR) (h : filSpec la lh = some R) : LocOk Tryd.prog 42 la lh R := by
  unfold filSpec at h
  split at h
  · rename_i w zt nt sht rot lent FT
    split at h
    · rename_i hb
      simp only [Bool.and_eq_true] at hb
      obtain ⟨t1, t2, t3, t4, t5⟩ := hb
      have t1 := Nat.eq_of_beq_eq_true t1; subst t1
      have t2 := Nat.eq_of_beq_eq_true t2; subst t2
      have t3 := shBeq_eq t3; subst t3
      subst t4
      have t5 := Nat.eq_of_beq_eq_true t5; subst t5
      cases h
      exact fil_loc w FT
    · cases h
  · cases h
end Go.Proofs.YtljeiencnpnbkaaDoor

/-
  FreesOnce: definitions.
-/
set_option linter.unusedSimpArgs false
set_option linter.unusedVariables false
namespace Go.Proofs.YtljeiencnpnbkaaDoor
open Go.Ev
noncomputable def EFy : Env := envG Tryd.prog [(42, locSP filSpec), (43, tabSP 0 tab sNone)]
theorem EFy_ok : EnvOk EFy := envG_ok mgood ⟨locSP_ok filSpec_ok, tabSP_ok rfl (sNone_ok l7_pure), trivial⟩
noncomputable def foBody : Code := match Tryd.f8.body with
  | some c => c
  | none => .skip
noncomputable def foHead : List Code := headC 5 foBody
theorem foBody_eq : foBody = seqs foHead foC0 := by kernel_rfl
noncomputable def foSt (w : Int) (m : Nat) (f : Nat → Nat → AV) : St := ⟨[.sym .u8 w, .ss 1 1 0 m none] ++ List.replicate 168 (.tup []), ⟨(tabsH [(0, tab)] ++ [(1, .arr 1 [.int .u8] true m f)]), 2, gnm 0, [], [], [], false⟩⟩
noncomputable def fzRun (w : Int) (m : Nat) (f : Nat → Nat → AV) (hh : List Hint) : Option (AV × List Prop × Bool) := (callF EFy 5000 8 [.sym .u8 w, .ss 1 1 0 m none] ⟨(tabsH [(0, tab)] ++ [(1, .arr 1 [.int .u8] true m f)]), 2, gnm 0, hh, [], [], false⟩).map (fun x => (x.1, x.2.ob, noneIn (tabsH [(0, tab)] ++ [(1, .arr 1 [.int .u8] true m f)]) x.2.wr))
end Go.Proofs.YtljeiencnpnbkaaDoor
