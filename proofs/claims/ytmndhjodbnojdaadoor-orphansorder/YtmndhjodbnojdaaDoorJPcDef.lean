/-
  JPcDef and what follows it.
-/
import Derived.Test.YtmndhjodbnojdaaDoorJPi
/-
  Contains, where it is not there: definitions.
-/
set_option linter.unusedSimpArgs false
set_option linter.unusedVariables false
namespace Go.Proofs.YtmndhjodbnojdaaDoor
open Go.Ev
noncomputable def EIc : Env := envG Tryd.prog [(167, locSP idnSpec)]
theorem EIc_ok : EnvOk EIc := envG_ok mgood ⟨locSP_ok idnSpec_ok, trivial⟩

noncomputable def ctnH (n l : Nat) (r : Bool) (f : Nat → Nat → AV) (s : Int) : List (Nat × AO) := [(1, .arr 1 [.int .i64] r l f)]
noncomputable def ctnR (n l : Nat) (r : Bool) (f : Nat → Nat → AV) (s : Int) : LR := ⟨1, .symb false, [(1, .arr 1 [.int .i64] r l f)], 0, [], [n ≤ l, n ≤ 1000000, ∀ i, i < n → (s == avInt (f (0 + i) 0)) = false]⟩
end Go.Proofs.YtmndhjodbnojdaaDoor

/-
  Contains, where it is not there.
-/
set_option linter.unusedSimpArgs false
set_option linter.unusedVariables false
namespace Go.Proofs.YtmndhjodbnojdaaDoor
open Go.Ev
theorem ctn_1 (n l : Nat) (r : Bool) (f : Nat → Nat → AV) (s : Int) : callB EIc 2000 136 [AV.ss 1 1 0 n none, AV.sym IntKind.i64 s] (ctnH n l r f s) (ctnR n l r f s) [] [] =
 some ([decide ((-1 : Int) ≥ (0 : Int)) = false,
 r = r,
 l ≤ l,
 f = f ∧ plainSh [CK.int IntKind.i64] = true ∨ ∀ (i : Nat), i < l → rowOb [CK.int IntKind.i64] 0 (f i) (f i),
 n ≤ l,
 n ≤ 1000000,
 ∀ (i : Nat), i < n → idnP n l r f s i = false]) := by kernel_rfl
theorem ctn_loc (n l : Nat) (r : Bool) (f : Nat → Nat → AV) (s : Int) : LocOk Tryd.prog 136 [.ss 1 1 0 n none, .sym .i64 s] (ctnH n l r f s) (ctnR n l r f s) := by
  refine loc_of_call EIc_ok (fun hp => ?_)
  have hl : n ≤ l := hp _ (List.mem_cons_self ..)
  have hm : n ≤ 1000000 := hp _ (List.mem_cons_of_mem _ (List.mem_cons_self ..))
  have qno : ∀ i, i < n → (s == avInt (f (0 + i) 0)) = false := hp _ (List.mem_cons_of_mem _ (List.mem_cons_of_mem _ (List.mem_cons_self ..)))
  clear hp
  refine ⟨2000, _, _, _, ctn_1 .., (ob_cons ?_ (ob_cons rfl (ob_cons (Nat.le_refl _) (ob_cons (.inl ⟨rfl, rfl⟩) (ob_cons ?_ (ob_cons ?_ (ob_cons ?_ ob_nil)))))))⟩
  ·
    first | exact hl | exact hm | exact qno | exact rfl | (simp; done) | (apply Nat.ble_eq_true_of_le; omega) | (simp [Nat.blt_eq]; omega)
  ·
    first | exact hl | exact hm | exact qno | exact rfl | (simp; done) | exact Nat.le_refl _ | omega
  ·
    first | exact hl | exact hm | exact qno | exact rfl | (simp; done) | exact Nat.le_refl _ | omega
  ·
    first | exact hl | exact hm | exact qno | exact rfl | (simp; done) | exact fun _ => rfl
noncomputable def ctnSpec : LSpec := fun la lh => match la, lh with
  | [.ss z1 z2 z3 n none, .sym .i64 s], [(z4, .arr z5 z6 r l f)] =>
    match Nat.beq z1 1 && (Nat.beq z2 1 && (Nat.beq z3 0 && (Nat.beq z4 1 && (Nat.beq z5 1 && (shBeq z6 iSh))))) with
    | true => some (ctnR n l r f s)
    | false => none
  | _, _ => none
theorem ctnSpec_ok (la : List AV) (lh : List (Nat × AO)) (R : LR) (h : ctnSpec la lh = some R) : LocOk Tryd.prog 136 la lh R := by
  unfold ctnSpec at h
  split at h
  · rename_i z1 z2 z3 n s z4 z5 z6 r l f
    split at h
    · rename_i hb
      simp only [Bool.and_eq_true] at hb
      obtain ⟨e1, e2, e3, e4, e5, e6⟩ := hb
      have e1 := Nat.eq_of_beq_eq_true e1; subst e1
      have e2 := Nat.eq_of_beq_eq_true e2; subst e2
      have e3 := Nat.eq_of_beq_eq_true e3; subst e3
      have e4 := Nat.eq_of_beq_eq_true e4; subst e4
      have e5 := Nat.eq_of_beq_eq_true e5; subst e5
      have e6 := shBeq_eq e6; subst e6
      cases h
      exact ctn_loc n l r f s
    · cases h
  · cases h

end Go.Proofs.YtmndhjodbnojdaaDoor

/-
  may: its loop: definitions.
-/
set_option linter.unusedSimpArgs false
set_option linter.unusedVariables false
namespace Go.Proofs.YtmndhjodbnojdaaDoor
open Go.Ev

noncomputable def EIm : Env := envG Tryd.prog [(136, locSP ctnSpec)]
theorem EIm_ok : EnvOk EIm := envG_ok mgood ⟨locSP_ok ctnSpec_ok, trivial⟩
/-- Slots of entries. -/
def yK (f : Nat → Nat → AV) : Nat → Int := fun i => avInt (f (0 + i) 0)
structure GvMay (n : Nat) (f : Nat → Nat → AV) : Prop where
  r : ∀ i, i < n → 0 ≤ yK f i ∧ yK f i < 256 ∧ avBool (f (0 + i) 2) = false
  nd : ∀ i, i < n → ∀ j, j < i → yK f j ≠ yK f i
  n0 : 0 < n
  n1 : n ≤ 1000000
theorem may_nd {n : Nat} {f : Nat → Nat → AV} {ii : Nat} (hv : GvMay n f) (h : ii < n) : ∀ i, i < ii → (avInt (f (0 + ii) 0) == avInt (nF (yK f) (0 + i) 0)) = false := fun i hi => eqF (fun e => hv.nd ii h i hi (by
  have z : yK f (0 + i) = yK f i := by rw [Nat.zero_add]
  rw [← z]; exact e.symm))
theorem yK_rows {n : Nat} {K : Nat → Int} : ∀ i, i < n + 1 → rowOb [.int .i64] 0 (fun j => if i < n then nF K (0 + i) j else rowsOf 1 [.sym .i64 (K n)] (i - n) j) (nF K i) := fun i hi => by
  by_cases c : i < n
  · simp only [c, if_true, Nat.zero_add]; exact ⟨rfl, trivial⟩
  · have e : i = n := by omega
    subst e; simp only [Nat.lt_irrefl, if_false, Nat.sub_self]; exact ⟨rfl, trivial⟩
noncomputable def mylU (n l : Nat) (r : Bool) (f : Nat → Nat → AV) (c : Option Nat) : St := ⟨[.ss 6 1 0 n c, .top, .nils, .bool false, .nils, .top, .top, .top, .ss 6 1 0 n c, .sym .i64 (Int.ofNat n), .int .i64 0] ++ List.replicate 31 .top, ⟨[(1, .arr 6 [.int .i64, .int .u32, .bool, .int .u64, .int .u64, .int .u64] r l f)], 2, gnm 0, [], [], [], false⟩⟩
noncomputable def mylT (n l : Nat) (r : Bool) (f : Nat → Nat → AV) (c : Option Nat) (i : Nat) : St := ⟨[.ss 6 1 0 n c, .top, .nils, .bool false, .ss 1 2 0 i none, .top, .top, .top, .ss 6 1 0 n c, .sym .i64 (Int.ofNat n), .sym .i64 (Int.ofNat i)] ++ List.replicate 31 .top, ⟨[(1, .arr 6 [.int .i64, .int .u32, .bool, .int .u64, .int .u64, .int .u64] r l f), (2, .arr 1 [.int .i64] false i (nF (yK f)))], 3, gnm 0, [], [], [], false⟩⟩
noncomputable def mylX (n l : Nat) (r : Bool) (f : Nat → Nat → AV) (c : Option Nat) (i : Nat) : St := ⟨[.ss 6 1 0 n c, .top, .nils, .bool false, .ss 1 2 0 i none, .top, .top, .top, .ss 6 1 0 n c, .sym .i64 (Int.ofNat n)] ++ List.replicate 32 .top, ⟨[(1, .arr 6 [.int .i64, .int .u32, .bool, .int .u64, .int .u64, .int .u64] r l f), (2, .arr 1 [.int .i64] false i (nF (yK f)))], 3, gnm 0, [], [], [], false⟩⟩
noncomputable abbrev mylL : Code := loopAt Tryd.prog 78 0
noncomputable def mylLP (n l : Nat) (r : Bool) (f : Nat → Nat → AV) (c : Option Nat) : Prop := LoopHolds Tryd.prog mylL (mylU n l r f c) (.exit 0) (mylX n l r f c n)
end Go.Proofs.YtmndhjodbnojdaaDoor
