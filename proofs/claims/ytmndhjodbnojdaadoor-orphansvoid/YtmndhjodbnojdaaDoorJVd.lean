/-
  may, where one may not be: its contract.
-/
import Derived.Test.YtmndhjodbnojdaaDoorJVdDef
set_option linter.unusedSimpArgs false
set_option linter.unusedVariables false
namespace Go.Proofs.YtmndhjodbnojdaaDoor
open Go.Ev
theorem myk_1 (n l : Nat) (r : Bool) (f : Nat → Nat → AV) (c : Option Nat) (kk : Nat) : callB EIm 2000 78 [AV.ss 6 1 0 n c] (mykH n l r f c kk) (mykR n l r f c kk) [] [Hint.lp [0, 2, 3, 4, 8, 9, 10] Ex.ret (nylX n l r f c kk kk).tmps (nylX n l r f c kk kk).hp.heap 3 [], Hint.b true] =
 some ([false = false,
 r = r,
 l ≤ l,
 f = f ∧ plainSh [CK.int IntKind.i64, CK.int IntKind.u32, CK.bool, CK.int IntKind.u64, CK.int IntKind.u64, CK.int IntKind.u64] = true ∨ ∀ (i : Nat), i < l → rowOb [CK.int IntKind.i64, CK.int IntKind.u32, CK.bool, CK.int IntKind.u64, CK.int IntKind.u64, CK.int IntKind.u64] 0 (f i) (f i),
 nylLP n l r f c kk]) := by kernel_rfl
theorem myk_loc (n l : Nat) (r : Bool) (f : Nat → Nat → AV) (c : Option Nat) (kk : Nat) : LocOk Tryd.prog 78 [.ss 6 1 0 n c] (mykH n l r f c kk) (mykR n l r f c kk) := by
  refine loc_of_call EIm_ok (fun hp => ?_)
  have hl : n ≤ l := hp _ (List.mem_cons_self ..)
  have hn : n ≤ 1000000 := hp _ (List.mem_cons_of_mem _ (List.mem_cons_self ..))
  have hk : kk < n := hp _ (List.mem_cons_of_mem _ (List.mem_cons_of_mem _ (List.mem_cons_self ..)))
  have hg : ∀ i, i < kk → Gd f i := hp _ (List.mem_cons_of_mem _ (List.mem_cons_of_mem _ (List.mem_cons_of_mem _ (List.mem_cons_self ..))))
  have hb : ¬ Gd f kk := hp _ (List.mem_cons_of_mem _ (List.mem_cons_of_mem _ (List.mem_cons_of_mem _ (List.mem_cons_of_mem _ (List.mem_cons_self ..)))))
  clear hp
  have hlp := nyl_lp n l r f c kk hl hn hk hg hb
  refine ⟨2000, _, _, _, myk_1 .., (ob_cons rfl (ob_cons rfl (ob_cons (Nat.le_refl _) (ob_cons (.inl ⟨rfl, rfl⟩) (ob_cons ?_ ob_nil)))))⟩
  · exact hlp
noncomputable def myzR (n l : Nat) (r : Bool) (f : Nat → Nat → AV) (c : Option Nat) : LR := ⟨1, .tup [.nils, .symb false], [(1, .arr 6 [.int .i64, .int .u32, .bool, .int .u64, .int .u64, .int .u64] r l f)], 1, [], [n ≤ l, n ≤ 1000000, ∃ i, i < n ∧ ¬ Gd f i]⟩
theorem myz_loc (n l : Nat) (r : Bool) (f : Nat → Nat → AV) (c : Option Nat) : LocOk Tryd.prog 78 [.ss 6 1 0 n c] [(1, .arr 6 [.int .i64, .int .u32, .bool, .int .u64, .int .u64, .int .u64] r l f)] (myzR n l r f c) := by
  intro ρ w hp hr hf hg xs hx
  have hl : n ≤ l := hp _ (List.mem_cons_self ..)
  have hn : n ≤ 1000000 := hp _ (List.mem_cons_of_mem _ (List.mem_cons_self ..))
  obtain ⟨kk, h1, h2, h3⟩ := first_bad (hp _ (List.mem_cons_of_mem _ (List.mem_cons_of_mem _ (List.mem_cons_self ..))))
  exact myk_loc n l r f c kk ρ w (ob_cons hl (ob_cons hn (ob_cons h1 (ob_cons h3 (ob_cons h2 ob_nil))))) hr hf hg xs hx
noncomputable def myzSpec : LSpec := fun la lh => match la, lh with
  | [.ss z1 z2 z3 n c], [(z4, .arr z5 z6 r l f)] =>
    match Nat.beq z1 6 && (Nat.beq z2 1 && (Nat.beq z3 0 && (Nat.beq z4 1 && (Nat.beq z5 6 && (shBeq z6 ySh))))) with
    | true => some (myzR n l r f c)
    | false => none
  | _, _ => none
theorem myzSpec_ok (la : List AV) (lh : List (Nat × AO)) (R : LR) (h : myzSpec la lh = some R) : LocOk Tryd.prog 78 la lh R := by
  unfold myzSpec at h
  split at h
  · rename_i z1 z2 z3 n c z4 z5 z6 r l f
    split at h
    · rename_i hb
      simp only [Bool.and_eq_true] at hb
      obtain ⟨e1, e2, e3, e4, e5, e6⟩ := hb
      have e1 := Nat.eq_of_beq_eq_true e1; subst e1
      have e2 := Nat.eq_of_beq_eq_true e2; subst e2
      have e3 := Nat.eq_of_beq_eq_true e3; subst e3
      have e4 := Nat.eq_of_beq_eq_true e4; subst e4
      have e5 := Nat.eq_of_beq_eq_true e5; subst e5
      have e6 := shBeq_eq e6; subst e6
      cases h
      exact myz_loc n l r f c
    · cases h
  · cases h


end Go.Proofs.YtmndhjodbnojdaaDoor
