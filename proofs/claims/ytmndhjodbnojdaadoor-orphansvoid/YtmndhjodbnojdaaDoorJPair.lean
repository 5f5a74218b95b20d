/-
  Pairs of memories: Store.
-/
import Derived.Test.YtmndhjodbnojdaaDoorJPairDef
set_option linter.unusedSimpArgs false
set_option linter.unusedVariables false
namespace Go.Proofs.YtmndhjodbnojdaaDoor
open Go.Ev
theorem pst_1 (kd ad fd v : Int) (M : List Int → Option Int) (st c0 k0 a0 f0 w0 i0 : Int) (d0 : Bool) (n l : Nat) (g : Nat → Nat → AV) (st2 c2 k2 a2 f2 w2 i2 : Int) (d2 : Bool) : callB EP0 2000 44 [AV.agg [AV.ptr 1 0 0, AV.ptr 3 0 0], AV.agg [AV.sym IntKind.u8 kd, AV.sym IntKind.i64 ad, AV.sym IntKind.i64 fd, AV.sym IntKind.u64 v]] (pstH kd ad fd v M st c0 k0 a0 f0 w0 i0 d0 n l g st2 c2 k2 a2 f2 w2 i2 d2) (pstR kd ad fd v M st c0 k0 a0 f0 w0 i0 d0 n l g st2 c2 k2 a2 f2 w2 i2 d2) [(5, Src.nm 7)] [] =
 some ([IntKind.i64.wrap (st + 1) = IntKind.i64.wrap (st + 1),
 (2 : Int) = 2,
 kd = kd,
 ad = ad,
 fd = fd,
 mget M (key kd ad fd) = mget M (key kd ad fd),
 memIs M kd ad fd v = memIs M kd ad fd v,
 false = false,
 ∀ (k : List Int), memPut M kd ad fd v k = memPut M kd ad fd v k,
 (0 : Nat) = 0,
 (dPut (dOf n g) kd ad fd v).n = (dPut (dOf n g) kd ad fd v).n,
 (none : Option Nat) = none,
 IntKind.i64.wrap (st2 + 1) = IntKind.i64.wrap (st2 + 1),
 (2 : Int) = 2,
 kd = kd,
 ad = ad,
 fd = fd,
 dWord (dOf n g) kd ad fd = dWord (dOf n g) kd ad fd,
 dWord (dPut (dOf n g) kd ad fd v) kd ad fd = dWord (dPut (dOf n g) kd ad fd v) kd ad fd,
 false = false,
 false = false,
 (dPut (dOf n g) kd ad fd v).n ≤ (dPut (dOf n g) kd ad fd v).n,
 wdF (dPut (dOf n g) kd ad fd v).W = wdF (dPut (dOf n g) kd ad fd v).W ∧ plainSh wSh = true ∨ ∀ (i : Nat), i < (dPut (dOf n g) kd ad fd v).n → rowOb wSh 0 (wdF (dPut (dOf n g) kd ad fd v).W i) (wdF (dPut (dOf n g) kd ad fd v).W i),
 n ≤ l,
 n ≤ 100000,
 0 ≤ kd,
 0 ≤ kd]) := by kernel_rfl
theorem pst_loc (kd ad fd v : Int) (M : List Int → Option Int) (st c0 k0 a0 f0 w0 i0 : Int) (d0 : Bool) (n l : Nat) (g : Nat → Nat → AV) (st2 c2 k2 a2 f2 w2 i2 : Int) (d2 : Bool) : LocOk Tryd.prog 44 [.agg [.ptr 1 0 0, .ptr 3 0 0], .agg [.sym .u8 kd, .sym .i64 ad, .sym .i64 fd, .sym .u64 v]] (pstH kd ad fd v M st c0 k0 a0 f0 w0 i0 d0 n l g st2 c2 k2 a2 f2 w2 i2 d2) (pstR kd ad fd v M st c0 k0 a0 f0 w0 i0 d0 n l g st2 c2 k2 a2 f2 w2 i2 d2) := by
  refine loc_of_call EP0_ok (fun hp => ?_)
  have hl : n ≤ l := hp _ (List.mem_cons_self ..)
  have hm : n ≤ 100000 := hp _ (List.mem_cons_of_mem _ (List.mem_cons_self ..))
  have hk0 : 0 ≤ kd := hp _ (List.mem_cons_of_mem _ (List.mem_cons_of_mem _ (List.mem_cons_self ..)))
  clear hp
  refine ⟨2000, _, _, _, pst_1 .., (ob_cons rfl (ob_cons rfl (ob_cons rfl (ob_cons rfl (ob_cons rfl (ob_cons rfl (ob_cons rfl (ob_cons rfl (ob_cons (fun _ => rfl) (ob_cons rfl (ob_cons rfl (ob_cons rfl (ob_cons rfl (ob_cons rfl (ob_cons rfl (ob_cons rfl (ob_cons rfl (ob_cons rfl (ob_cons rfl (ob_cons rfl (ob_cons rfl (ob_cons (Nat.le_refl _) (ob_cons (.inl ⟨rfl, rfl⟩) (ob_cons ?_ (ob_cons ?_ (ob_cons ?_ (ob_cons ?_ ob_nil)))))))))))))))))))))))))))⟩
  ·
    first | exact Nat.le_refl _ | omega | exact hl | exact hm | exact hk0 | exact Nat.le_refl _ | rfl | exact .inl ⟨rfl, rfl⟩ | exact .inr (fun i hi => row_wd rfl) | exact (fun _ => rfl) | omega
  ·
    first | exact Nat.le_refl _ | omega | exact hl | exact hm | exact hk0 | exact Nat.le_refl _ | rfl | exact .inl ⟨rfl, rfl⟩ | exact .inr (fun i hi => row_wd rfl) | exact (fun _ => rfl) | omega
  ·
    first | exact Nat.le_refl _ | omega | exact hl | exact hm | exact hk0 | exact Nat.le_refl _ | rfl | exact .inl ⟨rfl, rfl⟩ | exact .inr (fun i hi => row_wd rfl) | exact (fun _ => rfl) | omega
  ·
    first | exact Nat.le_refl _ | omega | exact hl | exact hm | exact hk0 | exact Nat.le_refl _ | rfl | exact .inl ⟨rfl, rfl⟩ | exact .inr (fun i hi => row_wd rfl) | exact (fun _ => rfl) | omega
noncomputable def pstSpec : LSpec := fun la lh => match la, lh with
  | [.agg [.ptr z1 z2 z3, .ptr z4 z5 z6], .agg [.sym .u8 kd, .sym .i64 ad, .sym .i64 fd, .sym .u64 v]], [(z7, .cells z8 [.map z9, .sym .i64 st, .sym .u8 c0, .sym .u8 k0, .sym .i64 a0, .sym .i64 f0, .sym .u64 w0, .sym .u64 i0, .symb d0]), (z10, .map z11 M), (z12, .cells z13 [.ss z14 z15 z16 n none, .sym .i64 st2, .sym .u8 c2, .sym .u8 k2, .sym .i64 a2, .sym .i64 f2, .sym .u64 w2, .sym .u64 i2, .symb d2]), (z17, .arr z18 z19 false l g)] =>
    match Nat.beq z1 1 && (Nat.beq z2 0 && (Nat.beq z3 0 && (Nat.beq z4 3 && (Nat.beq z5 0 && (Nat.beq z6 0 && (Nat.beq z7 1 && (Nat.beq z8 9 && (Nat.beq z9 2 && (Nat.beq z10 2 && (Nat.beq z11 115 && (Nat.beq z12 3 && (Nat.beq z13 9 && (Nat.beq z14 4 && (Nat.beq z15 4 && (Nat.beq z16 0 && (Nat.beq z17 4 && (Nat.beq z18 4 && (shBeq z19 wSh)))))))))))))))))) with
    | true => some (pstR kd ad fd v M st c0 k0 a0 f0 w0 i0 d0 n l g st2 c2 k2 a2 f2 w2 i2 d2)
    | false => none
  | _, _ => none
theorem pstSpec_ok (la : List AV) (lh : List (Nat × AO)) (R : LR) (h : pstSpec la lh = some R) : LocOk Tryd.prog 44 la lh R := by
  unfold pstSpec at h
  split at h
  · rename_i z1 z2 z3 z4 z5 z6 kd ad fd v z7 z8 z9 st c0 k0 a0 f0 w0 i0 d0 z10 z11 M z12 z13 z14 z15 z16 n st2 c2 k2 a2 f2 w2 i2 d2 z17 z18 z19 l g
    split at h
    · rename_i hb
      simp only [Bool.and_eq_true] at hb
      obtain ⟨e1, e2, e3, e4, e5, e6, e7, e8, e9, e10, e11, e12, e13, e14, e15, e16, e17, e18, e19⟩ := hb
      have e1 := Nat.eq_of_beq_eq_true e1; subst e1
      have e2 := Nat.eq_of_beq_eq_true e2; subst e2
      have e3 := Nat.eq_of_beq_eq_true e3; subst e3
      have e4 := Nat.eq_of_beq_eq_true e4; subst e4
      have e5 := Nat.eq_of_beq_eq_true e5; subst e5
      have e6 := Nat.eq_of_beq_eq_true e6; subst e6
      have e7 := Nat.eq_of_beq_eq_true e7; subst e7
      have e8 := Nat.eq_of_beq_eq_true e8; subst e8
      have e9 := Nat.eq_of_beq_eq_true e9; subst e9
      have e10 := Nat.eq_of_beq_eq_true e10; subst e10
      have e11 := Nat.eq_of_beq_eq_true e11; subst e11
      have e12 := Nat.eq_of_beq_eq_true e12; subst e12
      have e13 := Nat.eq_of_beq_eq_true e13; subst e13
      have e14 := Nat.eq_of_beq_eq_true e14; subst e14
      have e15 := Nat.eq_of_beq_eq_true e15; subst e15
      have e16 := Nat.eq_of_beq_eq_true e16; subst e16
      have e17 := Nat.eq_of_beq_eq_true e17; subst e17
      have e18 := Nat.eq_of_beq_eq_true e18; subst e18
      have e19 := shBeq_eq e19; subst e19
      cases h
      exact pst_loc kd ad fd v M st c0 k0 a0 f0 w0 i0 d0 n l g st2 c2 k2 a2 f2 w2 i2 d2
    · cases h
  · cases h

end Go.Proofs.YtmndhjodbnojdaaDoor
