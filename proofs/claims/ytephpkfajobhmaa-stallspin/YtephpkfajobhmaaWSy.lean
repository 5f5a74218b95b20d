/-
  Stalls: Pins, any capacity.
-/
import Derived.Test.YtephpkfajobhmaaWSyDef
set_option linter.unusedSimpArgs false
set_option linter.unusedVariables false
namespace Go.Proofs.Ytephpkfajobhmaa
open Go.Ev
theorem szQ_1 (n l : Nat) (r : Bool) (g : Nat → Nat → AV) (sl ge : Int) (mk : Bool) (b ep er : Int) (cc : Option Nat) (ew : Int) : callB ESz 2000 37 [AV.agg [AV.sym IntKind.i64 sl, AV.sym IntKind.u32 ge, AV.symb mk, AV.sym IntKind.u64 b, AV.sym IntKind.u64 ep, AV.sym IntKind.u64 er], AV.agg [AV.ss 10 1 0 n cc, AV.sym IntKind.u64 ew]] (szQH n l r g sl ge mk b ep er cc ew) (szQR n l r g sl ge mk b ep er cc ew) [] [] =
 some ([decide (srch (szIP n l r g sl ge mk b ep er cc) n (fun i => Int.ofNat i) (-1) ≥ 0) = pinB n g b,
 r = r,
 l ≤ l,
 g = g ∧ plainSh tSh = true ∨ ∀ (i : Nat), i < l → rowOb tSh 0 (g i) (g i),
 n ≤ l,
 n ≤ 1000000]) := by kernel_rfl
theorem szQ_loc (n l : Nat) (r : Bool) (g : Nat → Nat → AV) (sl ge : Int) (mk : Bool) (b ep er : Int) (cc : Option Nat) (ew : Int) : LocOk Try.prog 37 [.agg [.sym .i64 sl, .sym .u32 ge, .symb mk, .sym .u64 b, .sym .u64 ep, .sym .u64 er], .agg [.ss 10 1 0 n cc, .sym .u64 ew]] (szQH n l r g sl ge mk b ep er cc ew) (szQR n l r g sl ge mk b ep er cc ew) := by
  refine loc_of_call ESz_ok (fun hp => ?_)
  have hl : n ≤ l := hp _ (List.mem_cons_self ..)
  have hm : n ≤ 1000000 := hp _ (List.mem_cons_of_mem _ (List.mem_cons_self ..))
  clear hp
  refine ⟨2000, _, _, _, szQ_1 .., (ob_cons ?_ (ob_cons rfl (ob_cons (Nat.le_refl _) (ob_cons (.inl ⟨rfl, rfl⟩) (ob_cons ?_ (ob_cons ?_ ob_nil))))))⟩
  ·
    first | rfl | exact pin_same n l r g sl ge mk b ep er cc | omega
  ·
    first | exact Nat.le_refl _ | omega | exact pin_same n l r g sl ge mk b ep er cc | omega
  ·
    first | exact Nat.le_refl _ | omega | exact pin_same n l r g sl ge mk b ep er cc | omega
noncomputable def szQSpec : LSpec := fun la lh => match la, lh with
  | [.agg [.sym .i64 sl, .sym .u32 ge, .symb mk, .sym .u64 b, .sym .u64 ep, .sym .u64 er], .agg [.ss z1 z2 z3 n cc, .sym .u64 ew]], [(z4, .arr z5 z6 r l g)] =>
    match Nat.beq z1 10 && (Nat.beq z2 1 && (Nat.beq z3 0 && (Nat.beq z4 1 && (Nat.beq z5 10 && (shBeq z6 tSh))))) with
    | true => some (szQR n l r g sl ge mk b ep er cc ew)
    | false => none
  | _, _ => none
theorem szQSpec_ok (la : List AV) (lh : List (Nat × AO)) (R : LR) (h : szQSpec la lh = some R) : LocOk Try.prog 37 la lh R := by
  unfold szQSpec at h
  split at h
  · rename_i sl ge mk b ep er z1 z2 z3 n cc ew z4 z5 z6 r l g
    split at h
    · rename_i hb
      simp only [Bool.and_eq_true] at hb
      obtain ⟨e1, e2, e3, e4, e5, e6⟩ := hb
      have e1 := Nat.eq_of_beq_eq_true e1; subst e1
      have e2 := Nat.eq_of_beq_eq_true e2; subst e2
      have e3 := Nat.eq_of_beq_eq_true e3; subst e3
      have e4 := Nat.eq_of_beq_eq_true e4; subst e4
      have e5 := Nat.eq_of_beq_eq_true e5; subst e5
      have e6 := shBeq_eq e6; subst e6
      cases h
      exact szQ_loc n l r g sl ge mk b ep er cc ew
    · cases h
  · cases h

end Go.Proofs.Ytephpkfajobhmaa
