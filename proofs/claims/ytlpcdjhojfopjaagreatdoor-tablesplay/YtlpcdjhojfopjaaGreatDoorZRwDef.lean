/-
  ZRwDef and what follows it.
-/
import Derived.Test.YtlpcdjhojfopjaaGreatDoorZRo
/-
  Words of the document: definitions.
-/
set_option linter.unusedSimpArgs false
set_option linter.unusedVariables false
namespace Go.Proofs.YtlpcdjhojfopjaaGreatDoor
open Go.Ev

noncomputable def rwwH (n l : Nat) (g : Nat → Nat → AV) (st : Int) (L : LS) : List (Nat × AO) := [(1, .cells 9 (.ss 4 2 0 n none :: lsL st L)), (2, .arr 4 wSh false l g)]
noncomputable def rwwR (n l : Nat) (g : Nat → Nat → AV) (st : Int) (L : LS) : LR := ⟨2, .ss 4 3 0 (rwl (dOf n g) n).length none, [(1, .cells 9 (.ss 4 2 0 n none :: lsL st L)), (2, .arr 4 wSh false l g), (3, .arr 4 wSh false (rwl (dOf n g) n).length (wdF (wdAt (rwl (dOf n g) n))))], 1, [], [n ≤ l, n ≤ 100000]⟩
end Go.Proofs.YtlpcdjhojfopjaaGreatDoor

/-
  Words of the document.
-/
set_option linter.unusedSimpArgs false
set_option linter.unusedVariables false
namespace Go.Proofs.YtlpcdjhojfopjaaGreatDoor
open Go.Ev
theorem rww_1 (n l : Nat) (g : Nat → Nat → AV) (st : Int) (L : LS) : callB ERw 2000 71 [AV.ptr 1 0 0] (rwwH n l g st L) (rwwR n l g st L) [(3, Src.nm 3)] [Hint.lp [0, 3, 4] (Ex.exit 0) (rwoX n l g st L n).tmps (rwoX n l g st L n).hp.heap 4 []] =
 some ([(0 : Nat) = 0,
 (rwl (dOf n g) n).length = (rwl (dOf n g) n).length,
 (none : Option Nat) = none,
 (0 : Nat) = 0,
 n = n,
 (none : Option Nat) = none,
 st = st,
 L.c = L.c,
 L.k = L.k,
 L.a = L.a,
 L.f = L.f,
 L.w = L.w,
 L.i = L.i,
 L.d = L.d,
 false = false,
 l ≤ l,
 g = g ∧ plainSh wSh = true ∨ ∀ (i : Nat), i < l → rowOb wSh 0 (g i) (g i),
 false = false,
 (rwl (dOf n g) n).length ≤ (rwl (dOf n g) n).length,
 wdF (wdAt (rwl (dOf n g) n)) = wdF (wdAt (rwl (dOf n g) n)) ∧ plainSh wSh = true ∨ ∀ (i : Nat), i < (rwl (dOf n g) n).length → rowOb wSh 0 (wdF (wdAt (rwl (dOf n g) n)) i) (wdF (wdAt (rwl (dOf n g) n)) i),
 rwoLP n l g st L]) := by kernel_rfl
theorem rww_loc (n l : Nat) (g : Nat → Nat → AV) (st : Int) (L : LS) : LocOk Tryz.prog 71 [.ptr 1 0 0] (rwwH n l g st L) (rwwR n l g st L) := by
  refine loc_of_call ERw_ok (fun hp => ?_)
  have hl : n ≤ l := hp _ (List.mem_cons_self ..)
  have hm : n ≤ 100000 := hp _ (List.mem_cons_of_mem _ (List.mem_cons_self ..))
  clear hp
  refine ⟨2000, _, _, _, rww_1 .., (cj ⟨rfl, rfl, rfl, rfl, rfl, rfl, rfl, rfl, rfl, rfl, rfl, rfl, rfl, rfl, rfl, Nat.le_refl _, .inl ⟨rfl, rfl⟩, rfl, Nat.le_refl _, .inl ⟨rfl, rfl⟩, (by first | trivial | exact rwo_lp n l g st L hl hm | omega), trivial⟩)⟩
noncomputable def rwwSpec : LSpec := fun la lh => match la, lh with
  | [.ptr z1 z2 z3], [(z4, .cells z5 [.ss z6 z7 z8 n none, .sym .i64 st, .sym .u8 c0, .sym .u8 k0, .sym .i64 a0, .sym .i64 f0, .sym .u64 w0, .sym .u64 i0, .symb d0]), (z9, .arr z10 z11 false l g)] =>
    match Nat.beq z1 1 && (Nat.beq z2 0 && (Nat.beq z3 0 && (Nat.beq z4 1 && (Nat.beq z5 9 && (Nat.beq z6 4 && (Nat.beq z7 2 && (Nat.beq z8 0 && (Nat.beq z9 2 && (Nat.beq z10 4 && (shBeq z11 wSh)))))))))) with
    | true => some (rwwR n l g st ⟨c0, k0, a0, f0, w0, i0, d0⟩)
    | false => none
  | _, _ => none
theorem rwwSpec_ok (la : List AV) (lh : List (Nat × AO)) (R : LR) (h : rwwSpec la lh = some R) : LocOk Tryz.prog 71 la lh R := by
  unfold rwwSpec at h
  split at h
  · rename_i z1 z2 z3 z4 z5 z6 z7 z8 n st c0 k0 a0 f0 w0 i0 d0 z9 z10 z11 l g
    split at h
    · rename_i hb
      simp only [Bool.and_eq_true] at hb
      obtain ⟨e1, e2, e3, e4, e5, e6, e7, e8, e9, e10, e11⟩ := hb
      have e1 := Nat.eq_of_beq_eq_true e1; subst e1
      have e2 := Nat.eq_of_beq_eq_true e2; subst e2
      have e3 := Nat.eq_of_beq_eq_true e3; subst e3
      have e4 := Nat.eq_of_beq_eq_true e4; subst e4
      have e5 := Nat.eq_of_beq_eq_true e5; subst e5
      have e6 := Nat.eq_of_beq_eq_true e6; subst e6
      have e7 := Nat.eq_of_beq_eq_true e7; subst e7
      have e8 := Nat.eq_of_beq_eq_true e8; subst e8
      have e9 := Nat.eq_of_beq_eq_true e9; subst e9
      have e10 := Nat.eq_of_beq_eq_true e10; subst e10
      have e11 := shBeq_eq e11; subst e11
      cases h
      exact rww_loc n l g st ⟨c0, k0, a0, f0, w0, i0, d0⟩
    · cases h
  · cases h

end Go.Proofs.YtlpcdjhojfopjaaGreatDoor
