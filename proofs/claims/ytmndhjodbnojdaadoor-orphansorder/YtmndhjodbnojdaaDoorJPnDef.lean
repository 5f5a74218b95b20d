/-
  JPnDef and what follows it.
-/
import Derived.Test.YtmndhjodbnojdaaDoorJPm
/-
  may: its contract: definitions.
-/
set_option linter.unusedSimpArgs false
set_option linter.unusedVariables false
namespace Go.Proofs.YtmndhjodbnojdaaDoor
open Go.Ev

noncomputable def mycH (n l : Nat) (r : Bool) (f : Nat → Nat → AV) (c : Option Nat) : List (Nat × AO) := [(1, .arr 6 [.int .i64, .int .u32, .bool, .int .u64, .int .u64, .int .u64] r l f)]
noncomputable def mycR (n l : Nat) (r : Bool) (f : Nat → Nat → AV) (c : Option Nat) : LR := ⟨1, .tup [.ss 1 2 0 n none, .symb true], [(1, .arr 6 [.int .i64, .int .u32, .bool, .int .u64, .int .u64, .int .u64] r l f), (2, .arr 1 [.int .i64] false n (nF (yK f)))], 1, [], [n ≤ l, GvMay n f]⟩
end Go.Proofs.YtmndhjodbnojdaaDoor

/-
  may: its contract.
-/
set_option linter.unusedSimpArgs false
set_option linter.unusedVariables false
namespace Go.Proofs.YtmndhjodbnojdaaDoor
open Go.Ev
theorem myc_1 (n l : Nat) (r : Bool) (f : Nat → Nat → AV) (c : Option Nat) : callB EIm 2000 78 [AV.ss 6 1 0 n c] (mycH n l r f c) (mycR n l r f c) [(2, Src.nm 2)] [Hint.lp [0, 2, 3, 4, 8, 9, 10] (Ex.exit 0) (mylX n l r f c n).tmps (mylX n l r f c n).hp.heap 3 [], Hint.b true] =
 some ([(0 : Nat) = 0,
 n = n,
 (none : Option Nat) = none,
 decide (Int.ofNat n > 0) = true,
 r = r,
 l ≤ l,
 f = f ∧ plainSh [CK.int IntKind.i64, CK.int IntKind.u32, CK.bool, CK.int IntKind.u64, CK.int IntKind.u64, CK.int IntKind.u64] = true ∨ ∀ (i : Nat), i < l → rowOb [CK.int IntKind.i64, CK.int IntKind.u32, CK.bool, CK.int IntKind.u64, CK.int IntKind.u64, CK.int IntKind.u64] 0 (f i) (f i),
 false = false,
 n ≤ n,
 nF (yK f) = nF (yK f) ∧ plainSh [CK.int IntKind.i64] = true ∨ ∀ (i : Nat), i < n → rowOb [CK.int IntKind.i64] 0 (nF (yK f) i) (nF (yK f) i),
 mylLP n l r f c]) := by kernel_rfl
theorem myc_loc (n l : Nat) (r : Bool) (f : Nat → Nat → AV) (c : Option Nat) : LocOk Tryd.prog 78 [.ss 6 1 0 n c] (mycH n l r f c) (mycR n l r f c) := by
  refine loc_of_call EIm_ok (fun hp => ?_)
  have hl : n ≤ l := hp _ (List.mem_cons_self ..)
  have hv : GvMay n f := hp _ (List.mem_cons_of_mem _ (List.mem_cons_self ..))
  clear hp
  have hlp := myl_lp n l r f c hl hv
  refine ⟨2000, _, _, _, myc_1 .., (ob_cons rfl (ob_cons rfl (ob_cons rfl (ob_cons ?_ (ob_cons rfl (ob_cons (Nat.le_refl _) (ob_cons (.inl ⟨rfl, rfl⟩) (ob_cons rfl (ob_cons (Nat.le_refl _) (ob_cons (.inl ⟨rfl, rfl⟩) (ob_cons ?_ ob_nil)))))))))))⟩
  ·
    first | exact hlp | exact decide_eq_true (by have := hv.n0; show (n : Int) > 0; omega) | exact rfl | exact .inl ⟨rfl, rfl⟩ | (simp; done) | (apply Nat.ble_eq_true_of_le; omega) | (simp [Nat.blt_eq]; omega)
  ·
    first | exact hlp | exact decide_eq_true (by have := hv.n0; show (n : Int) > 0; omega) | exact rfl | exact .inl ⟨rfl, rfl⟩ | (simp; done) | trivial
noncomputable def mycSpec : LSpec := fun la lh => match la, lh with
  | [.ss z1 z2 z3 n c], [(z4, .arr z5 z6 r l f)] =>
    match Nat.beq z1 6 && (Nat.beq z2 1 && (Nat.beq z3 0 && (Nat.beq z4 1 && (Nat.beq z5 6 && (shBeq z6 ySh))))) with
    | true => some (mycR n l r f c)
    | false => none
  | _, _ => none
theorem mycSpec_ok (la : List AV) (lh : List (Nat × AO)) (R : LR) (h : mycSpec la lh = some R) : LocOk Tryd.prog 78 la lh R := by
  unfold mycSpec at h
  split at h
  · rename_i z1 z2 z3 n c z4 z5 z6 r l f
    split at h
    · rename_i hb
      simp only [Bool.and_eq_true] at hb
      obtain ⟨e1, e2, e3, e4, e5, e6⟩ := hb
      have e1 := Nat.eq_of_beq_eq_true e1; subst e1
      have e2 := Nat.eq_of_beq_eq_true e2; subst e2
      have e3 := Nat.eq_of_beq_eq_true e3; subst e3
      have e4 := Nat.eq_of_beq_eq_true e4; subst e4
      have e5 := Nat.eq_of_beq_eq_true e5; subst e5
      have e6 := shBeq_eq e6; subst e6
      cases h
      exact myc_loc n l r f c
    · cases h
  · cases h

end Go.Proofs.YtmndhjodbnojdaaDoor

/-
  NewGive: its contract: definitions.
-/
set_option linter.unusedSimpArgs false
set_option linter.unusedVariables false
namespace Go.Proofs.YtmndhjodbnojdaaDoor
open Go.Ev

noncomputable def EIn : Env := envG Tryd.prog [(78, locSP mycSpec)]
theorem EIn_ok : EnvOk EIn := envG_ok mgood ⟨locSP_ok mycSpec_ok, trivial⟩
/-- The line that a Give of n slots begins with. -/
def ngL (n : Nat) : Int := if n = 1 then 2 else 1
theorem ngL_1 {n : Nat} (h : (Int.ofNat n == 1) = true) : ngL n = 2 := if_pos (by have h : (n : Int) = 1 := by simpa using h
                                                                                  omega)
theorem ngL_2 {n : Nat} (h : (Int.ofNat n == 1) = false) : ngL n = 1 := if_neg (by have h : ¬ (n : Int) = 1 := by simpa using h
                                                                                   omega)
noncomputable def ngvH (n l : Nat) (r : Bool) (f : Nat → Nat → AV) (c : Option Nat) : List (Nat × AO) := [(1, .arr 6 [.int .i64, .int .u32, .bool, .int .u64, .int .u64, .int .u64] r l f)]
noncomputable def ngvR (n l : Nat) (r : Bool) (f : Nat → Nat → AV) (c : Option Nat) : LR := ⟨1, .ptr 2 0 0, [(1, .arr 6 [.int .i64, .int .u32, .bool, .int .u64, .int .u64, .int .u64] r l f), (2, .cells 4 [.sym .i64 (ngL n), .sym .u64 0, .ss 1 3 0 n none, .sym .i64 0]), (3, .arr 1 [.int .i64] false n (nF (yK f)))], 2, [], [n ≤ l, GvMay n f]⟩
end Go.Proofs.YtmndhjodbnojdaaDoor
