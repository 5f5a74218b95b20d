/-
  NewGive, where one may not be: its contract.
-/
import Derived.Test.YtmndhjodbnojdaaDoorJVeDef
set_option linter.unusedSimpArgs false
set_option linter.unusedVariables false
namespace Go.Proofs.YtmndhjodbnojdaaDoor
open Go.Ev
theorem ngz_1 (n l : Nat) (r : Bool) (f : Nat → Nat → AV) (c : Option Nat) : callB EIn 2000 34 [AV.ss 6 1 0 n c] (ngzH n l r f c) (ngzR n l r f c) [(2, Src.nm 3)] [Hint.b true] =
 some ([(0 : Nat) = 0,
 (0 : Nat) = 0,
 r = r,
 l ≤ l,
 f = f ∧ plainSh [CK.int IntKind.i64, CK.int IntKind.u32, CK.bool, CK.int IntKind.u64, CK.int IntKind.u64, CK.int IntKind.u64] = true ∨ ∀ (i : Nat), i < l → rowOb [CK.int IntKind.i64, CK.int IntKind.u32, CK.bool, CK.int IntKind.u64, CK.int IntKind.u64, CK.int IntKind.u64] 0 (f i) (f i),
 (!false) = true,
 n ≤ l,
 n ≤ 1000000,
 ∃ i, i < n ∧ ¬Gd f i]) := by kernel_rfl
theorem ngz_loc (n l : Nat) (r : Bool) (f : Nat → Nat → AV) (c : Option Nat) : LocOk Tryd.prog 34 [.ss 6 1 0 n c] (ngzH n l r f c) (ngzR n l r f c) := by
  refine loc_of_call EIn_ok (fun hp => ?_)
  have hl : n ≤ l := hp _ (List.mem_cons_self ..)
  have hn : n ≤ 1000000 := hp _ (List.mem_cons_of_mem _ (List.mem_cons_self ..))
  have hb : ∃ i, i < n ∧ ¬ Gd f i := hp _ (List.mem_cons_of_mem _ (List.mem_cons_of_mem _ (List.mem_cons_self ..)))
  clear hp
  refine ⟨2000, _, _, _, ngz_1 .., (ob_cons rfl (ob_cons rfl (ob_cons rfl (ob_cons (Nat.le_refl _) (ob_cons (.inl ⟨rfl, rfl⟩) (ob_cons ?_ (ob_cons ?_ (ob_cons ?_ (ob_cons ?_ ob_nil)))))))))⟩
  · exact rfl
  · exact hl
  · exact hn
  · exact hb
noncomputable def ngzSpec : LSpec := fun la lh => match la, lh with
  | [.ss z1 z2 z3 n c], [(z4, .arr z5 z6 r l f)] =>
    match Nat.beq z1 6 && (Nat.beq z2 1 && (Nat.beq z3 0 && (Nat.beq z4 1 && (Nat.beq z5 6 && (shBeq z6 ySh))))) with
    | true => some (ngzR n l r f c)
    | false => none
  | _, _ => none
theorem ngzSpec_ok (la : List AV) (lh : List (Nat × AO)) (R : LR) (h : ngzSpec la lh = some R) : LocOk Tryd.prog 34 la lh R := by
  unfold ngzSpec at h
  split at h
  · rename_i z1 z2 z3 n c z4 z5 z6 r l f
    split at h
    · rename_i hb
      simp only [Bool.and_eq_true] at hb
      obtain ⟨e1, e2, e3, e4, e5, e6⟩ := hb
      have e1 := Nat.eq_of_beq_eq_true e1; subst e1
      have e2 := Nat.eq_of_beq_eq_true e2; subst e2
      have e3 := Nat.eq_of_beq_eq_true e3; subst e3
      have e4 := Nat.eq_of_beq_eq_true e4; subst e4
      have e5 := Nat.eq_of_beq_eq_true e5; subst e5
      have e6 := shBeq_eq e6; subst e6
      cases h
      exact ngz_loc n l r f c
    · cases h
  · cases h

theorem ngn_1 : callB EIm 2000 34 [AV.nils] ngnH ngnR [(1, Src.nm 1)] [] =
 some ([(0 : Nat) = 0,
 (0 : Nat) = 0]) := by kernel_rfl
theorem ngn_loc  : LocOk Tryd.prog 34 [.nils] (ngnH ) (ngnR ) := by
  refine loc_of_call EIm_ok (fun hp => ?_)
  clear hp
  refine ⟨2000, _, _, _, ngn_1 .., (ob_cons rfl (ob_cons rfl ob_nil))⟩
noncomputable def ngnSpec : LSpec := fun la lh => match la, lh with
  | [.nils], [] => some (ngnR)
  | _, _ => none
theorem ngnSpec_ok (la : List AV) (lh : List (Nat × AO)) (R : LR) (h : ngnSpec la lh = some R) : LocOk Tryd.prog 34 la lh R := by
  unfold ngnSpec at h
  split at h
  · cases h
    exact ngn_loc
  · cases h

end Go.Proofs.YtmndhjodbnojdaaDoor
