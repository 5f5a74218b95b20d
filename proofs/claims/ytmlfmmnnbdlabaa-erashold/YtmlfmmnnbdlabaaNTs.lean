/-
  Snapshots: a step of the Taker: its contract.
-/
import Derived.Test.YtmlfmmnnbdlabaaNTk
import Derived.Test.YtmlfmmnnbdlabaaNTb
import Derived.Test.YtmlfmmnnbdlabaaEvLoop
set_option linter.unusedSimpArgs false
set_option linter.unusedVariables false
namespace Go.Proofs.Ytmlfmmnnbdlabaa
open Go.Ev
noncomputable def tkcG (M : List Int → Option Int) (st c0 k0 a0 f0 w0 i0 : Int) (d0 : Bool) (ta fl al ep : Int) (n n2 : Nat) (cc : Option Nat) (F : Nat → Nat → AV) : LR := ⟨4, .bool false, tkO M st c0 k0 a0 f0 w0 i0 d0 ta fl al ep n F (tkAt M F ta fl) (tkFl M F ta fl), 0, [1, 2, 3, 4], [cc = some n, n2 = n, TkPre F ta fl al n, tkAt M F ta fl ≠ al]⟩
theorem tkcG_loc (M : List Int → Option Int) (st c0 k0 a0 f0 w0 i0 : Int) (d0 : Bool) (ta fl al ep : Int) (n n2 : Nat) (cc : Option Nat) (F : Nat → Nat → AV) : LocOk Try.prog 33 [.ptr 1 0 0, .ptr 3 0 0] [(1, .cells 6 [.func (.func 106) [.ptr 1 0 0] [], .ss 10 2 0 n cc, .sym .u64 ep, .sym .i64 ta, .sym .i64 fl, .sym .i64 al]), (2, .arr 10 tSh false n2 F), (3, .cells 9 (.map 4 :: .sym .i64 st :: [.sym .u8 c0, .sym .u8 k0, .sym .i64 a0, .sym .i64 f0, .sym .u64 w0, .sym .u64 i0, .symb d0])), (4, .map 128 M)] (tkcG M st c0 k0 a0 f0 w0 i0 d0 ta fl al ep n n2 cc F) := by
  intro ρ w hob
  have e1 : cc = some n := hob _ (List.mem_cons_self ..)
  have e2 : n2 = n := hob _ (List.mem_cons_of_mem _ (List.mem_cons_self ..))
  subst e1; subst e2
  exact tkc_loc M st c0 k0 a0 f0 w0 i0 d0 ta fl al ep n2 F ρ w (fun p hp => hob p (List.mem_cons_of_mem _ (List.mem_cons_of_mem _ hp)))
noncomputable def tkcSpec : LSpec := fun la lh => match la, lh with
  | [.ptr z1 z2 z3, .ptr z4 z5 z6], [(z7, .cells z8 [.func (.func z9) [.ptr z10 z11 z12] [], .ss z13 z14 z15 n cc, .sym .u64 ep, .sym .i64 ta, .sym .i64 fl, .sym .i64 al]), (z16, .arr z17 z18 false n2 F), (z19, .cells z20 (.map z21 :: .sym .i64 st :: [.sym .u8 c0, .sym .u8 k0, .sym .i64 a0, .sym .i64 f0, .sym .u64 w0, .sym .u64 i0, .symb d0])), (z22, .map z23 M)] =>
    match Nat.beq z1 1 && (Nat.beq z2 0 && (Nat.beq z3 0 && (Nat.beq z4 3 && (Nat.beq z5 0 && (Nat.beq z6 0 && (Nat.beq z7 1 && (Nat.beq z8 6 && (Nat.beq z9 106 && (Nat.beq z10 1 && (Nat.beq z11 0 && (Nat.beq z12 0 && (Nat.beq z13 10 && (Nat.beq z14 2 && (Nat.beq z15 0 && (Nat.beq z16 2 && (Nat.beq z17 10 && (shBeq z18 tSh && (Nat.beq z19 3 && (Nat.beq z20 9 && (Nat.beq z21 4 && (Nat.beq z22 4 && (Nat.beq z23 128)))))))))))))))))))))) with
    | true => some (tkcG M st c0 k0 a0 f0 w0 i0 d0 ta fl al ep n n2 cc F)
    | false => none
  | _, _ => none
theorem tkcSpec_ok (la : List AV) (lh : List (Nat × AO)) (R : LR) (h : tkcSpec la lh = some R) : LocOk Try.prog 33 la lh R := by
  unfold tkcSpec at h
  split at h
  · rename_i z1 z2 z3 z4 z5 z6 z7 z8 z9 z10 z11 z12 z13 z14 z15 n cc ep ta fl al z16 z17 z18 n2 F z19 z20 z21 st c0 k0 a0 f0 w0 i0 d0 z22 z23 M
    split at h
    · rename_i hb
      simp only [Bool.and_eq_true] at hb
      obtain ⟨e1, e2, e3, e4, e5, e6, e7, e8, e9, e10, e11, e12, e13, e14, e15, e16, e17, e18, e19, e20, e21, e22, e23⟩ := hb
      have e1 := Nat.eq_of_beq_eq_true e1; subst e1
      have e2 := Nat.eq_of_beq_eq_true e2; subst e2
      have e3 := Nat.eq_of_beq_eq_true e3; subst e3
      have e4 := Nat.eq_of_beq_eq_true e4; subst e4
      have e5 := Nat.eq_of_beq_eq_true e5; subst e5
      have e6 := Nat.eq_of_beq_eq_true e6; subst e6
      have e7 := Nat.eq_of_beq_eq_true e7; subst e7
      have e8 := Nat.eq_of_beq_eq_true e8; subst e8
      have e9 := Nat.eq_of_beq_eq_true e9; subst e9
      have e10 := Nat.eq_of_beq_eq_true e10; subst e10
      have e11 := Nat.eq_of_beq_eq_true e11; subst e11
      have e12 := Nat.eq_of_beq_eq_true e12; subst e12
      have e13 := Nat.eq_of_beq_eq_true e13; subst e13
      have e14 := Nat.eq_of_beq_eq_true e14; subst e14
      have e15 := Nat.eq_of_beq_eq_true e15; subst e15
      have e16 := Nat.eq_of_beq_eq_true e16; subst e16
      have e17 := Nat.eq_of_beq_eq_true e17; subst e17
      have e18 := shBeq_eq e18; subst e18
      have e19 := Nat.eq_of_beq_eq_true e19; subst e19
      have e20 := Nat.eq_of_beq_eq_true e20; subst e20
      have e21 := Nat.eq_of_beq_eq_true e21; subst e21
      have e22 := Nat.eq_of_beq_eq_true e22; subst e22
      have e23 := Nat.eq_of_beq_eq_true e23; subst e23
      cases h
      exact tkcG_loc M st c0 k0 a0 f0 w0 i0 d0 ta fl al ep n n2 cc F
    · cases h
  · cases h
noncomputable def tkoG (M : List Int → Option Int) (st c0 k0 a0 f0 w0 i0 : Int) (d0 : Bool) (ta fl al ep : Int) (n n2 : Nat) (cc : Option Nat) (F : Nat → Nat → AV) : LR := ⟨4, .bool true, tkE M st c0 k0 a0 f0 w0 i0 d0 ta fl al ep n F (tkAt M F ta fl) (tkFl M F ta fl), 0, [1, 2, 3, 4], [cc = some n, n2 = n, TkPre F ta fl al n, tkAt M F ta fl = al]⟩
theorem tkoG_loc (M : List Int → Option Int) (st c0 k0 a0 f0 w0 i0 : Int) (d0 : Bool) (ta fl al ep : Int) (n n2 : Nat) (cc : Option Nat) (F : Nat → Nat → AV) : LocOk Try.prog 33 [.ptr 1 0 0, .ptr 3 0 0] [(1, .cells 6 [.func (.func 106) [.ptr 1 0 0] [], .ss 10 2 0 n cc, .sym .u64 ep, .sym .i64 ta, .sym .i64 fl, .sym .i64 al]), (2, .arr 10 tSh false n2 F), (3, .cells 9 (.map 4 :: .sym .i64 st :: [.sym .u8 c0, .sym .u8 k0, .sym .i64 a0, .sym .i64 f0, .sym .u64 w0, .sym .u64 i0, .symb d0])), (4, .map 128 M)] (tkoG M st c0 k0 a0 f0 w0 i0 d0 ta fl al ep n n2 cc F) := by
  intro ρ w hob
  have e1 : cc = some n := hob _ (List.mem_cons_self ..)
  have e2 : n2 = n := hob _ (List.mem_cons_of_mem _ (List.mem_cons_self ..))
  subst e1; subst e2
  exact tko_loc M st c0 k0 a0 f0 w0 i0 d0 ta fl al ep n2 F ρ w (fun p hp => hob p (List.mem_cons_of_mem _ (List.mem_cons_of_mem _ hp)))
noncomputable def tkoSpec : LSpec := fun la lh => match la, lh with
  | [.ptr z1 z2 z3, .ptr z4 z5 z6], [(z7, .cells z8 [.func (.func z9) [.ptr z10 z11 z12] [], .ss z13 z14 z15 n cc, .sym .u64 ep, .sym .i64 ta, .sym .i64 fl, .sym .i64 al]), (z16, .arr z17 z18 false n2 F), (z19, .cells z20 (.map z21 :: .sym .i64 st :: [.sym .u8 c0, .sym .u8 k0, .sym .i64 a0, .sym .i64 f0, .sym .u64 w0, .sym .u64 i0, .symb d0])), (z22, .map z23 M)] =>
    match Nat.beq z1 1 && (Nat.beq z2 0 && (Nat.beq z3 0 && (Nat.beq z4 3 && (Nat.beq z5 0 && (Nat.beq z6 0 && (Nat.beq z7 1 && (Nat.beq z8 6 && (Nat.beq z9 106 && (Nat.beq z10 1 && (Nat.beq z11 0 && (Nat.beq z12 0 && (Nat.beq z13 10 && (Nat.beq z14 2 && (Nat.beq z15 0 && (Nat.beq z16 2 && (Nat.beq z17 10 && (shBeq z18 tSh && (Nat.beq z19 3 && (Nat.beq z20 9 && (Nat.beq z21 4 && (Nat.beq z22 4 && (Nat.beq z23 128)))))))))))))))))))))) with
    | true => some (tkoG M st c0 k0 a0 f0 w0 i0 d0 ta fl al ep n n2 cc F)
    | false => none
  | _, _ => none
theorem tkoSpec_ok (la : List AV) (lh : List (Nat × AO)) (R : LR) (h : tkoSpec la lh = some R) : LocOk Try.prog 33 la lh R := by
  unfold tkoSpec at h
  split at h
  · rename_i z1 z2 z3 z4 z5 z6 z7 z8 z9 z10 z11 z12 z13 z14 z15 n cc ep ta fl al z16 z17 z18 n2 F z19 z20 z21 st c0 k0 a0 f0 w0 i0 d0 z22 z23 M
    split at h
    · rename_i hb
      simp only [Bool.and_eq_true] at hb
      obtain ⟨e1, e2, e3, e4, e5, e6, e7, e8, e9, e10, e11, e12, e13, e14, e15, e16, e17, e18, e19, e20, e21, e22, e23⟩ := hb
      have e1 := Nat.eq_of_beq_eq_true e1; subst e1
      have e2 := Nat.eq_of_beq_eq_true e2; subst e2
      have e3 := Nat.eq_of_beq_eq_true e3; subst e3
      have e4 := Nat.eq_of_beq_eq_true e4; subst e4
      have e5 := Nat.eq_of_beq_eq_true e5; subst e5
      have e6 := Nat.eq_of_beq_eq_true e6; subst e6
      have e7 := Nat.eq_of_beq_eq_true e7; subst e7
      have e8 := Nat.eq_of_beq_eq_true e8; subst e8
      have e9 := Nat.eq_of_beq_eq_true e9; subst e9
      have e10 := Nat.eq_of_beq_eq_true e10; subst e10
      have e11 := Nat.eq_of_beq_eq_true e11; subst e11
      have e12 := Nat.eq_of_beq_eq_true e12; subst e12
      have e13 := Nat.eq_of_beq_eq_true e13; subst e13
      have e14 := Nat.eq_of_beq_eq_true e14; subst e14
      have e15 := Nat.eq_of_beq_eq_true e15; subst e15
      have e16 := Nat.eq_of_beq_eq_true e16; subst e16
      have e17 := Nat.eq_of_beq_eq_true e17; subst e17
      have e18 := shBeq_eq e18; subst e18
      have e19 := Nat.eq_of_beq_eq_true e19; subst e19
      have e20 := Nat.eq_of_beq_eq_true e20; subst e20
      have e21 := Nat.eq_of_beq_eq_true e21; subst e21
      have e22 := Nat.eq_of_beq_eq_true e22; subst e22
      have e23 := Nat.eq_of_beq_eq_true e23; subst e23
      cases h
      exact tkoG_loc M st c0 k0 a0 f0 w0 i0 d0 ta fl al ep n n2 cc F
    · cases h
  · cases h
/-- Step of a Taker, by hints: over or not; at its first line or not. -/
noncomputable def tkSP : SP := orSP (altSP tkoSpec tkcSpec) (altSP tbbSpec tbaSpec)
theorem tkSP_ok : SPOk Try.prog 33 tkSP := orSP_ok (altSP_ok tkoSpec_ok tkcSpec_ok) (altSP_ok tbbSpec_ok tbaSpec_ok)
end Go.Proofs.Ytmlfmmnnbdlabaa
