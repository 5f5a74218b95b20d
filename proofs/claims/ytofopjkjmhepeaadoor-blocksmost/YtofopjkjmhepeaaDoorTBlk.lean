/-
  Blocks: one more, one less, alone.
-/
import Derived.Test.YtofopjkjmhepeaaDoorTBlkDef
set_option linter.unusedSimpArgs false
set_option linter.unusedVariables false
namespace Go.Proofs.YtofopjkjmhepeaaDoor
open Go.Ev
theorem bmo_1 (M : List Int → Option Int) (st c0 k0 a0 f0 w0 i0 : Int) (d0 : Bool) : callB EB 2000 30 [AV.ptr 1 0 0] (bmoH M st c0 k0 a0 f0 w0 i0 d0 (tabF tab)) (bmoR M st c0 k0 a0 f0 w0 i0 d0 (tabF tab)) [] [Hint.b true] =
 some ([5 = moreE (mget M (key 5 0 0)),
 1 = moreN (mget M (key 5 0 0)),
 IntKind.i64.wrap (st + 1) = (moreA { M := M, st := st, L := { c := c0, k := k0, a := a0, f := f0, w := w0, i := i0, d := d0 } }).st,
 1 = (moreA { M := M, st := st, L := { c := c0, k := k0, a := a0, f := f0, w := w0, i := i0, d := d0 } }).L.c,
 5 = (moreA { M := M, st := st, L := { c := c0, k := k0, a := a0, f := f0, w := w0, i := i0, d := d0 } }).L.k,
 0 = (moreA { M := M, st := st, L := { c := c0, k := k0, a := a0, f := f0, w := w0, i := i0, d := d0 } }).L.a,
 0 = (moreA { M := M, st := st, L := { c := c0, k := k0, a := a0, f := f0, w := w0, i := i0, d := d0 } }).L.f,
 mget M (key 5 0 0) = (moreA { M := M, st := st, L := { c := c0, k := k0, a := a0, f := f0, w := w0, i := i0, d := d0 } }).L.w,
 mget M (key 5 0 0) = (moreA { M := M, st := st, L := { c := c0, k := k0, a := a0, f := f0, w := w0, i := i0, d := d0 } }).L.i,
 false = (moreA { M := M, st := st, L := { c := c0, k := k0, a := a0, f := f0, w := w0, i := i0, d := d0 } }).L.d,
 ∀ (k : List Int), M k = (moreA { M := M, st := st, L := { c := c0, k := k0, a := a0, f := f0, w := w0, i := i0, d := d0 } }).M k,
 decide (mget M (key 5 0 0) ≥ 4) = true]) := by kernel_rfl
theorem bmo_2 (M : List Int → Option Int) (st c0 k0 a0 f0 w0 i0 : Int) (d0 : Bool) : callB EB 2000 30 [AV.ptr 1 0 0] (bmoH M st c0 k0 a0 f0 w0 i0 d0 (tabF tab)) (bmoR M st c0 k0 a0 f0 w0 i0 d0 (tabF tab)) [] [Hint.b false, Hint.node [], Hint.b true] =
 some ([0 = moreE (mget M (key 5 0 0)),
 3 = moreN (mget M (key 5 0 0)),
 IntKind.i64.wrap (IntKind.i64.wrap (IntKind.i64.wrap (st + 1) + 1) + 1) = (moreA { M := M, st := st, L := { c := c0, k := k0, a := a0, f := f0, w := w0, i := i0, d := d0 } }).st,
 3 = (moreA { M := M, st := st, L := { c := c0, k := k0, a := a0, f := f0, w := w0, i := i0, d := d0 } }).L.c,
 7 = (moreA { M := M, st := st, L := { c := c0, k := k0, a := a0, f := f0, w := w0, i := i0, d := d0 } }).L.k,
 IntKind.i64.wrap (mget M (key 5 0 0)) = (moreA { M := M, st := st, L := { c := c0, k := k0, a := a0, f := f0, w := w0, i := i0, d := d0 } }).L.a,
 0 = (moreA { M := M, st := st, L := { c := c0, k := k0, a := a0, f := f0, w := w0, i := i0, d := d0 } }).L.f,
 mget (casM M 5 0 0 (mget M (key 5 0 0)) (IntKind.u64.wrap (mget M (key 5 0 0) + 1))) (key 7 (IntKind.i64.wrap (mget M (key 5 0 0))) 0) = (moreA { M := M, st := st, L := { c := c0, k := k0, a := a0, f := f0, w := w0, i := i0, d := d0 } }).L.w,
 casI (casM M 5 0 0 (mget M (key 5 0 0)) (IntKind.u64.wrap (mget M (key 5 0 0) + 1))) 7 (IntKind.i64.wrap (mget M (key 5 0 0))) 0 4294967296 0 = (moreA { M := M, st := st, L := { c := c0, k := k0, a := a0, f := f0, w := w0, i := i0, d := d0 } }).L.i,
 casD (casM M 5 0 0 (mget M (key 5 0 0)) (IntKind.u64.wrap (mget M (key 5 0 0) + 1))) 7 (IntKind.i64.wrap (mget M (key 5 0 0))) 0 4294967296 = (moreA { M := M, st := st, L := { c := c0, k := k0, a := a0, f := f0, w := w0, i := i0, d := d0 } }).L.d,
 ∀ (k : List Int), casM (casM M 5 0 0 (mget M (key 5 0 0)) (IntKind.u64.wrap (mget M (key 5 0 0) + 1))) 7 (IntKind.i64.wrap (mget M (key 5 0 0))) 0 4294967296 0 k = (moreA { M := M, st := st, L := { c := c0, k := k0, a := a0, f := f0, w := w0, i := i0, d := d0 } }).M k,
 (0 : Int) ≤ (7 : Int),
 decide ((0 : Int) ≤ (0 : Int)) = true,
 Nat.blt 0 1 = true,
 decide ((0 : Int) ≤ (32 : Int)) = true,
 Nat.blt 0 1 = true,
 decide ((0 : Int) ≤ (32 : Int)) = true,
 Nat.blt 0 1 = true,
 decide ((0 : Int) ≤ (1 : Int)) = true,
 Nat.blt 0 1 = true,
 decide ((0 : Int) ≤ (0 : Int)) = true,
 Nat.blt 0 1 = true,
 decide ((0 : Int) ≤ (32 : Int)) = true,
 Nat.blt 0 1 = true,
 casD M 5 0 0 (mget M (key 5 0 0)) = true,
 (0 : Int) ≤ (5 : Int),
 decide (mget M (key 5 0 0) ≥ 4) = false]) := by kernel_rfl
theorem bmo_loc (M : List Int → Option Int) (st c0 k0 a0 f0 w0 i0 : Int) (d0 : Bool) (FT : Nat → Nat → AV) : LocOk Tryd.prog 30 [.ptr 1 0 0] (bmoH M st c0 k0 a0 f0 w0 i0 d0 FT) (bmoR M st c0 k0 a0 f0 w0 i0 d0 FT) := by
  refine loc_of_call EB_ok (fun hp => ?_)
  have hFT : FT = tabF tab := hp _ (List.mem_cons_self ..)
  clear hp
  subst hFT
  cases h1 : (decide (mget M (key 5 0 0) ≥ 4)) with
  | true =>
    have g1 := of_decide_eq_true h1
    try simp only [Int.ofNat_eq_natCast, ge_iff_le, gt_iff_lt, Int.not_lt, Int.not_le] at g1
    first | (have hh : 4 ≤ mget M (key 5 0 0) := by omega) | (have hh : ¬ 4 ≤ mget M (key 5 0 0) := by omega)
    first | (have e0 := moreA_t (S := ⟨M, st, ⟨c0, k0, a0, f0, w0, i0, d0⟩⟩) hh) | (have e0 := moreA_f (S := ⟨M, st, ⟨c0, k0, a0, f0, w0, i0, d0⟩⟩) hh)
    obtain ⟨e, e2, e3⟩ := e0
    refine ⟨2000, _, _, _, bmo_1 .., (ob_cons ?_ (ob_cons ?_ (ob_cons ?_ (ob_cons ?_ (ob_cons ?_ (ob_cons ?_ (ob_cons ?_ (ob_cons ?_ (ob_cons ?_ (ob_cons ?_ (ob_cons ?_ (ob_cons h1 ob_nil))))))))))))⟩
    ·
      first | rfl | exact casD_self M 5 0 0 (by decide) | decide | rfl | (rw [e]; first | rfl | exact fun _ => rfl) | exact e2.symm | exact e3.symm | exact fun _ => (by rw [e]; rfl)
    ·
      first | rfl | exact casD_self M 5 0 0 (by decide) | decide | rfl | (rw [e]; first | rfl | exact fun _ => rfl) | exact e2.symm | exact e3.symm | exact fun _ => (by rw [e]; rfl)
    ·
      first | exact wrap_nat64 _ (by simp; omega) (by simp; omega) | exact casD_self M 5 0 0 (by decide) | decide | rfl | (rw [e]; first | rfl | exact fun _ => rfl) | exact e2.symm | exact e3.symm | exact fun _ => (by rw [e]; rfl)
    ·
      first | rfl | exact casD_self M 5 0 0 (by decide) | decide | rfl | (rw [e]; first | rfl | exact fun _ => rfl) | exact e2.symm | exact e3.symm | exact fun _ => (by rw [e]; rfl)
    ·
      first | rfl | exact casD_self M 5 0 0 (by decide) | decide | rfl | (rw [e]; first | rfl | exact fun _ => rfl) | exact e2.symm | exact e3.symm | exact fun _ => (by rw [e]; rfl)
    ·
      first | rfl | exact casD_self M 5 0 0 (by decide) | decide | rfl | (rw [e]; first | rfl | exact fun _ => rfl) | exact e2.symm | exact e3.symm | exact fun _ => (by rw [e]; rfl)
    ·
      first | rfl | exact casD_self M 5 0 0 (by decide) | decide | rfl | (rw [e]; first | rfl | exact fun _ => rfl) | exact e2.symm | exact e3.symm | exact fun _ => (by rw [e]; rfl)
    ·
      first | rfl | exact casD_self M 5 0 0 (by decide) | decide | rfl | (rw [e]; first | rfl | exact fun _ => rfl) | exact e2.symm | exact e3.symm | exact fun _ => (by rw [e]; rfl)
    ·
      first | rfl | exact casD_self M 5 0 0 (by decide) | decide | rfl | (rw [e]; first | rfl | exact fun _ => rfl) | exact e2.symm | exact e3.symm | exact fun _ => (by rw [e]; rfl)
    ·
      first | rfl | exact casD_self M 5 0 0 (by decide) | decide | rfl | (rw [e]; first | rfl | exact fun _ => rfl) | exact e2.symm | exact e3.symm | exact fun _ => (by rw [e]; rfl)
    ·
      first | exact fun _ => rfl | exact casD_self M 5 0 0 (by decide) | decide | rfl | (rw [e]; first | rfl | exact fun _ => rfl) | exact e2.symm | exact e3.symm | exact fun _ => (by rw [e]; rfl)
  | false =>
    have g1 := of_decide_eq_false h1
    try simp only [Int.ofNat_eq_natCast, ge_iff_le, gt_iff_lt, Int.not_lt, Int.not_le] at g1
    first | (have hh : 4 ≤ mget M (key 5 0 0) := by omega) | (have hh : ¬ 4 ≤ mget M (key 5 0 0) := by omega)
    first | (have e0 := moreA_t (S := ⟨M, st, ⟨c0, k0, a0, f0, w0, i0, d0⟩⟩) hh) | (have e0 := moreA_f (S := ⟨M, st, ⟨c0, k0, a0, f0, w0, i0, d0⟩⟩) hh)
    obtain ⟨e, e2, e3⟩ := e0
    refine ⟨2000, _, _, _, bmo_2 .., (ob_cons ?_ (ob_cons ?_ (ob_cons ?_ (ob_cons ?_ (ob_cons ?_ (ob_cons ?_ (ob_cons ?_ (ob_cons ?_ (ob_cons ?_ (ob_cons ?_ (ob_cons ?_ (ob_cons (by decide) (ob_cons rfl (ob_cons rfl (ob_cons rfl (ob_cons rfl (ob_cons rfl (ob_cons rfl (ob_cons rfl (ob_cons rfl (ob_cons rfl (ob_cons rfl (ob_cons rfl (ob_cons rfl (ob_cons ?_ (ob_cons (by decide) (ob_cons h1 ob_nil)))))))))))))))))))))))))))⟩
    ·
      first | rfl | exact casD_self M 5 0 0 (by decide) | decide | rfl | (rw [e]; first | rfl | exact fun _ => rfl) | exact e2.symm | exact e3.symm | exact fun _ => (by rw [e]; rfl)
    ·
      first | rfl | exact casD_self M 5 0 0 (by decide) | decide | rfl | (rw [e]; first | rfl | exact fun _ => rfl) | exact e2.symm | exact e3.symm | exact fun _ => (by rw [e]; rfl)
    ·
      first | exact wrap_nat64 _ (by simp; omega) (by simp; omega) | exact casD_self M 5 0 0 (by decide) | decide | rfl | (rw [e]; first | rfl | exact fun _ => rfl) | exact e2.symm | exact e3.symm | exact fun _ => (by rw [e]; rfl)
    ·
      first | rfl | exact casD_self M 5 0 0 (by decide) | decide | rfl | (rw [e]; first | rfl | exact fun _ => rfl) | exact e2.symm | exact e3.symm | exact fun _ => (by rw [e]; rfl)
    ·
      first | rfl | exact casD_self M 5 0 0 (by decide) | decide | rfl | (rw [e]; first | rfl | exact fun _ => rfl) | exact e2.symm | exact e3.symm | exact fun _ => (by rw [e]; rfl)
    ·
      first | exact wrap_nat64 _ (by simp; omega) (by simp; omega) | exact casD_self M 5 0 0 (by decide) | decide | rfl | (rw [e]; first | rfl | exact fun _ => rfl) | exact e2.symm | exact e3.symm | exact fun _ => (by rw [e]; rfl)
    ·
      first | rfl | exact casD_self M 5 0 0 (by decide) | decide | rfl | (rw [e]; first | rfl | exact fun _ => rfl) | exact e2.symm | exact e3.symm | exact fun _ => (by rw [e]; rfl)
    ·
      first | rfl | exact casD_self M 5 0 0 (by decide) | decide | rfl | (rw [e]; first | rfl | exact fun _ => rfl) | exact e2.symm | exact e3.symm | exact fun _ => (by rw [e]; rfl)
    ·
      first | rfl | exact casD_self M 5 0 0 (by decide) | decide | rfl | (rw [e]; first | rfl | exact fun _ => rfl) | exact e2.symm | exact e3.symm | exact fun _ => (by rw [e]; rfl)
    ·
      first | rfl | exact casD_self M 5 0 0 (by decide) | decide | rfl | (rw [e]; first | rfl | exact fun _ => rfl) | exact e2.symm | exact e3.symm | exact fun _ => (by rw [e]; rfl)
    ·
      first | exact fun _ => rfl | exact casD_self M 5 0 0 (by decide) | decide | rfl | (rw [e]; first | rfl | exact fun _ => rfl) | exact e2.symm | exact e3.symm | exact fun _ => (by rw [e]; rfl)
    ·
      first | (apply Nat.ble_eq_true_of_le; omega) | (simp [Nat.blt_eq]; omega) | exact casD_self M 5 0 0 (by decide) | decide | rfl | (rw [e]; first | rfl | exact fun _ => rfl) | exact e2.symm | exact e3.symm | exact fun _ => (by rw [e]; rfl)
noncomputable def bmoSpec : LSpec := fun la lh => match la, lh with
  | [.ptr z1 z2 z3], [(zt, .arr nt sht rot lent FT), (z4, .cells z5 [.map z6, .sym .i64 st, .sym .u8 c0, .sym .u8 k0, .sym .i64 a0, .sym .i64 f0, .sym .u64 w0, .sym .u64 i0, .symb d0]), (z7, .map z8 M)] =>
    match (Nat.beq zt (gnm 0) && (Nat.beq nt tab.length && (shBeq sht (tab.map kindOfV) && (rot && Nat.beq lent 1)))) && (Nat.beq z1 1 && (Nat.beq z2 0 && (Nat.beq z3 0 && (Nat.beq z4 1 && (Nat.beq z5 9 && (Nat.beq z6 2 && (Nat.beq z7 2 && (Nat.beq z8 110)))))))) with
    | true => some (bmoR M st c0 k0 a0 f0 w0 i0 d0 FT)
    | false => none
  | _, _ => none
theorem bmoSpec_ok (la : List AV) (lh : List (Nat × AO)) (R : LR) (h : bmoSpec la lh = some R) : LocOk Tryd.prog 30 la lh R := by
  unfold bmoSpec at h
  split at h
  · rename_i z1 z2 z3 zt nt sht rot lent FT z4 z5 z6 st c0 k0 a0 f0 w0 i0 d0 z7 z8 M
    split at h
    · rename_i hb
      simp only [Bool.and_eq_true] at hb
      obtain ⟨⟨t1, t2, t3, t4, t5⟩, e1, e2, e3, e4, e5, e6, e7, e8⟩ := hb
      have t1 := Nat.eq_of_beq_eq_true t1; subst t1
      have t2 := Nat.eq_of_beq_eq_true t2; subst t2
      have t3 := shBeq_eq t3; subst t3
      subst t4
      have t5 := Nat.eq_of_beq_eq_true t5; subst t5
      have e1 := Nat.eq_of_beq_eq_true e1; subst e1
      have e2 := Nat.eq_of_beq_eq_true e2; subst e2
      have e3 := Nat.eq_of_beq_eq_true e3; subst e3
      have e4 := Nat.eq_of_beq_eq_true e4; subst e4
      have e5 := Nat.eq_of_beq_eq_true e5; subst e5
      have e6 := Nat.eq_of_beq_eq_true e6; subst e6
      have e7 := Nat.eq_of_beq_eq_true e7; subst e7
      have e8 := Nat.eq_of_beq_eq_true e8; subst e8
      cases h
      exact bmo_loc M st c0 k0 a0 f0 w0 i0 d0 FT
    · cases h
  · cases h

theorem ble_1 (M : List Int → Option Int) (st c0 k0 a0 f0 w0 i0 : Int) (d0 : Bool) : callB EB 2000 32 [AV.ptr 1 0 0] (bleH M st c0 k0 a0 f0 w0 i0 d0 (tabF tab)) (bleR M st c0 k0 a0 f0 w0 i0 d0 (tabF tab)) [] [Hint.b true] =
 some ([4 = lessE (mget M (key 5 0 0)),
 1 = lessN (mget M (key 5 0 0)),
 IntKind.i64.wrap (st + 1) = (lessA { M := M, st := st, L := { c := c0, k := k0, a := a0, f := f0, w := w0, i := i0, d := d0 } }).st,
 1 = (lessA { M := M, st := st, L := { c := c0, k := k0, a := a0, f := f0, w := w0, i := i0, d := d0 } }).L.c,
 5 = (lessA { M := M, st := st, L := { c := c0, k := k0, a := a0, f := f0, w := w0, i := i0, d := d0 } }).L.k,
 0 = (lessA { M := M, st := st, L := { c := c0, k := k0, a := a0, f := f0, w := w0, i := i0, d := d0 } }).L.a,
 0 = (lessA { M := M, st := st, L := { c := c0, k := k0, a := a0, f := f0, w := w0, i := i0, d := d0 } }).L.f,
 mget M (key 5 0 0) = (lessA { M := M, st := st, L := { c := c0, k := k0, a := a0, f := f0, w := w0, i := i0, d := d0 } }).L.w,
 mget M (key 5 0 0) = (lessA { M := M, st := st, L := { c := c0, k := k0, a := a0, f := f0, w := w0, i := i0, d := d0 } }).L.i,
 false = (lessA { M := M, st := st, L := { c := c0, k := k0, a := a0, f := f0, w := w0, i := i0, d := d0 } }).L.d,
 ∀ (k : List Int), M k = (lessA { M := M, st := st, L := { c := c0, k := k0, a := a0, f := f0, w := w0, i := i0, d := d0 } }).M k,
 decide (mget M (key 5 0 0) ≤ 1) = true]) := by kernel_rfl
theorem ble_2 (M : List Int → Option Int) (st c0 k0 a0 f0 w0 i0 : Int) (d0 : Bool) : callB EB 2000 32 [AV.ptr 1 0 0] (bleH M st c0 k0 a0 f0 w0 i0 d0 (tabF tab)) (bleR M st c0 k0 a0 f0 w0 i0 d0 (tabF tab)) [] [Hint.b false, Hint.b false, Hint.node [], Hint.node [], Hint.node [], Hint.b false, Hint.node [], Hint.b true] =
 some ([0 = lessE (mget M (key 5 0 0)),
 3 = lessN (mget M (key 5 0 0)),
 IntKind.i64.wrap (IntKind.i64.wrap (IntKind.i64.wrap (st + 1) + 1) + 1) = (lessA { M := M, st := st, L := { c := c0, k := k0, a := a0, f := f0, w := w0, i := i0, d := d0 } }).st,
 3 = (lessA { M := M, st := st, L := { c := c0, k := k0, a := a0, f := f0, w := w0, i := i0, d := d0 } }).L.c,
 5 = (lessA { M := M, st := st, L := { c := c0, k := k0, a := a0, f := f0, w := w0, i := i0, d := d0 } }).L.k,
 0 = (lessA { M := M, st := st, L := { c := c0, k := k0, a := a0, f := f0, w := w0, i := i0, d := d0 } }).L.a,
 0 = (lessA { M := M, st := st, L := { c := c0, k := k0, a := a0, f := f0, w := w0, i := i0, d := d0 } }).L.f,
 mget (casM M 7 (IntKind.i64.wrap (IntKind.u64.wrap (mget M (key 5 0 0) - 1))) 0 0 4294967296) (key 5 0 0) = (lessA { M := M, st := st, L := { c := c0, k := k0, a := a0, f := f0, w := w0, i := i0, d := d0 } }).L.w,
 casI (casM M 7 (IntKind.i64.wrap (IntKind.u64.wrap (mget M (key 5 0 0) - 1))) 0 0 4294967296) 5 0 0 (mget M (key 5 0 0)) (IntKind.u64.wrap (mget M (key 5 0 0) - 1)) = (lessA { M := M, st := st, L := { c := c0, k := k0, a := a0, f := f0, w := w0, i := i0, d := d0 } }).L.i,
 casD (casM M 7 (IntKind.i64.wrap (IntKind.u64.wrap (mget M (key 5 0 0) - 1))) 0 0 4294967296) 5 0 0 (mget M (key 5 0 0)) = (lessA { M := M, st := st, L := { c := c0, k := k0, a := a0, f := f0, w := w0, i := i0, d := d0 } }).L.d,
 ∀ (k : List Int), casM (casM M 7 (IntKind.i64.wrap (IntKind.u64.wrap (mget M (key 5 0 0) - 1))) 0 0 4294967296) 5 0 0 (mget M (key 5 0 0)) (IntKind.u64.wrap (mget M (key 5 0 0) - 1)) k = (lessA { M := M, st := st, L := { c := c0, k := k0, a := a0, f := f0, w := w0, i := i0, d := d0 } }).M k,
 casD (casM M 7 (IntKind.i64.wrap (IntKind.u64.wrap (mget M (key 5 0 0) - 1))) 0 0 4294967296) 5 0 0 (mget M (key 5 0 0)) = true,
 (0 : Int) ≤ (5 : Int),
 (!casD M 7 (IntKind.i64.wrap (IntKind.u64.wrap (mget M (key 5 0 0) - 1))) 0 0) = false,
 (0 : Int) ≤ (7 : Int),
 decide ((0 : Int) ≤ (32 : Int)) = true,
 Nat.blt 0 1 = true,
 decide ((0 : Int) ≤ (1 : Int)) = true,
 Nat.blt 0 1 = true,
 decide ((0 : Int) ≤ (0 : Int)) = true,
 Nat.blt 0 1 = true,
 decide ((0 : Int) ≤ (32 : Int)) = true,
 Nat.blt 0 1 = true,
 decide ((0 : Int) ≤ (0 : Int)) = true,
 Nat.blt 0 1 = true,
 decide ((0 : Int) ≤ (32 : Int)) = true,
 Nat.blt 0 1 = true,
 decide (mget M (key 5 0 0) > 4) = false,
 decide (mget M (key 5 0 0) ≤ 1) = false]) := by kernel_rfl
theorem ble_loc (M : List Int → Option Int) (st c0 k0 a0 f0 w0 i0 : Int) (d0 : Bool) (FT : Nat → Nat → AV) : LocOk Tryd.prog 32 [.ptr 1 0 0] (bleH M st c0 k0 a0 f0 w0 i0 d0 FT) (bleR M st c0 k0 a0 f0 w0 i0 d0 FT) := by
  refine loc_of_call EB_ok (fun hp => ?_)
  have hFT : FT = tabF tab := hp _ (List.mem_cons_self ..)
  have hb4 : mget M (key 5 0 0) ≤ 4 := hp _ (List.mem_cons_of_mem _ (List.mem_cons_self ..))
  have hz : 1 < mget M (key 5 0 0) → mget M (key 7 (mget M (key 5 0 0) - 1) 0) = 0 := hp _ (List.mem_cons_of_mem _ (List.mem_cons_of_mem _ (List.mem_cons_self ..)))
  clear hp
  subst hFT
  cases h1 : (decide (mget M (key 5 0 0) ≤ 1)) with
  | true =>
    have g1 := of_decide_eq_true h1
    try simp only [Int.ofNat_eq_natCast, ge_iff_le, gt_iff_lt, Int.not_lt, Int.not_le] at g1
    first | (have hh : mget M (key 5 0 0) ≤ 1 := by omega) | (have hh : ¬ mget M (key 5 0 0) ≤ 1 := by omega)
    first | (have e0 := lessA_t (S := ⟨M, st, ⟨c0, k0, a0, f0, w0, i0, d0⟩⟩) hh) | (have e0 := lessA_f (S := ⟨M, st, ⟨c0, k0, a0, f0, w0, i0, d0⟩⟩) hh)
    obtain ⟨e, e2, e3⟩ := e0
    refine ⟨2000, _, _, _, ble_1 .., (ob_cons ?_ (ob_cons ?_ (ob_cons ?_ (ob_cons ?_ (ob_cons ?_ (ob_cons ?_ (ob_cons ?_ (ob_cons ?_ (ob_cons ?_ (ob_cons ?_ (ob_cons ?_ (ob_cons h1 ob_nil))))))))))))⟩
    ·
      first | rfl | (rw [ble_c1 (by omega) hb4 hz]; rfl) | exact ble_c1 (by omega) hb4 hz | exact ble_c2 (by omega) hb4 hz | exact decide_eq_false (by omega) | decide | rfl | (rw [e]; first | rfl | exact fun _ => rfl) | exact e2.symm | exact e3.symm | exact fun _ => (by rw [e]; rfl)
    ·
      first | rfl | (rw [ble_c1 (by omega) hb4 hz]; rfl) | exact ble_c1 (by omega) hb4 hz | exact ble_c2 (by omega) hb4 hz | exact decide_eq_false (by omega) | decide | rfl | (rw [e]; first | rfl | exact fun _ => rfl) | exact e2.symm | exact e3.symm | exact fun _ => (by rw [e]; rfl)
    ·
      first | exact wrap_nat64 _ (by simp; omega) (by simp; omega) | (rw [ble_c1 (by omega) hb4 hz]; rfl) | exact ble_c1 (by omega) hb4 hz | exact ble_c2 (by omega) hb4 hz | exact decide_eq_false (by omega) | decide | rfl | (rw [e]; first | rfl | exact fun _ => rfl) | exact e2.symm | exact e3.symm | exact fun _ => (by rw [e]; rfl)
    ·
      first | rfl | (rw [ble_c1 (by omega) hb4 hz]; rfl) | exact ble_c1 (by omega) hb4 hz | exact ble_c2 (by omega) hb4 hz | exact decide_eq_false (by omega) | decide | rfl | (rw [e]; first | rfl | exact fun _ => rfl) | exact e2.symm | exact e3.symm | exact fun _ => (by rw [e]; rfl)
    ·
      first | rfl | (rw [ble_c1 (by omega) hb4 hz]; rfl) | exact ble_c1 (by omega) hb4 hz | exact ble_c2 (by omega) hb4 hz | exact decide_eq_false (by omega) | decide | rfl | (rw [e]; first | rfl | exact fun _ => rfl) | exact e2.symm | exact e3.symm | exact fun _ => (by rw [e]; rfl)
    ·
      first | rfl | (rw [ble_c1 (by omega) hb4 hz]; rfl) | exact ble_c1 (by omega) hb4 hz | exact ble_c2 (by omega) hb4 hz | exact decide_eq_false (by omega) | decide | rfl | (rw [e]; first | rfl | exact fun _ => rfl) | exact e2.symm | exact e3.symm | exact fun _ => (by rw [e]; rfl)
    ·
      first | rfl | (rw [ble_c1 (by omega) hb4 hz]; rfl) | exact ble_c1 (by omega) hb4 hz | exact ble_c2 (by omega) hb4 hz | exact decide_eq_false (by omega) | decide | rfl | (rw [e]; first | rfl | exact fun _ => rfl) | exact e2.symm | exact e3.symm | exact fun _ => (by rw [e]; rfl)
    ·
      first | rfl | (rw [ble_c1 (by omega) hb4 hz]; rfl) | exact ble_c1 (by omega) hb4 hz | exact ble_c2 (by omega) hb4 hz | exact decide_eq_false (by omega) | decide | rfl | (rw [e]; first | rfl | exact fun _ => rfl) | exact e2.symm | exact e3.symm | exact fun _ => (by rw [e]; rfl)
    ·
      first | rfl | (rw [ble_c1 (by omega) hb4 hz]; rfl) | exact ble_c1 (by omega) hb4 hz | exact ble_c2 (by omega) hb4 hz | exact decide_eq_false (by omega) | decide | rfl | (rw [e]; first | rfl | exact fun _ => rfl) | exact e2.symm | exact e3.symm | exact fun _ => (by rw [e]; rfl)
    ·
      first | rfl | (rw [ble_c1 (by omega) hb4 hz]; rfl) | exact ble_c1 (by omega) hb4 hz | exact ble_c2 (by omega) hb4 hz | exact decide_eq_false (by omega) | decide | rfl | (rw [e]; first | rfl | exact fun _ => rfl) | exact e2.symm | exact e3.symm | exact fun _ => (by rw [e]; rfl)
    ·
      first | exact fun _ => rfl | (rw [ble_c1 (by omega) hb4 hz]; rfl) | exact ble_c1 (by omega) hb4 hz | exact ble_c2 (by omega) hb4 hz | exact decide_eq_false (by omega) | decide | rfl | (rw [e]; first | rfl | exact fun _ => rfl) | exact e2.symm | exact e3.symm | exact fun _ => (by rw [e]; rfl)
  | false =>
    have g1 := of_decide_eq_false h1
    try simp only [Int.ofNat_eq_natCast, ge_iff_le, gt_iff_lt, Int.not_lt, Int.not_le] at g1
    first | (have hh : mget M (key 5 0 0) ≤ 1 := by omega) | (have hh : ¬ mget M (key 5 0 0) ≤ 1 := by omega)
    first | (have e0 := lessA_t (S := ⟨M, st, ⟨c0, k0, a0, f0, w0, i0, d0⟩⟩) hh) | (have e0 := lessA_f (S := ⟨M, st, ⟨c0, k0, a0, f0, w0, i0, d0⟩⟩) hh)
    obtain ⟨e, e2, e3⟩ := e0
    refine ⟨2000, _, _, _, ble_2 .., (ob_cons ?_ (ob_cons ?_ (ob_cons ?_ (ob_cons ?_ (ob_cons ?_ (ob_cons ?_ (ob_cons ?_ (ob_cons ?_ (ob_cons ?_ (ob_cons ?_ (ob_cons ?_ (ob_cons ?_ (ob_cons (by decide) (ob_cons ?_ (ob_cons (by decide) (ob_cons rfl (ob_cons rfl (ob_cons rfl (ob_cons rfl (ob_cons rfl (ob_cons rfl (ob_cons rfl (ob_cons rfl (ob_cons rfl (ob_cons rfl (ob_cons rfl (ob_cons rfl (ob_cons ?_ (ob_cons h1 ob_nil)))))))))))))))))))))))))))))⟩
    ·
      first | rfl | (rw [ble_c1 (by omega) hb4 hz]; rfl) | exact ble_c1 (by omega) hb4 hz | exact ble_c2 (by omega) hb4 hz | exact decide_eq_false (by omega) | decide | rfl | (rw [e]; first | rfl | exact fun _ => rfl) | exact e2.symm | exact e3.symm | exact fun _ => (by rw [e]; rfl)
    ·
      first | rfl | (rw [ble_c1 (by omega) hb4 hz]; rfl) | exact ble_c1 (by omega) hb4 hz | exact ble_c2 (by omega) hb4 hz | exact decide_eq_false (by omega) | decide | rfl | (rw [e]; first | rfl | exact fun _ => rfl) | exact e2.symm | exact e3.symm | exact fun _ => (by rw [e]; rfl)
    ·
      first | exact wrap_nat64 _ (by simp; omega) (by simp; omega) | (rw [ble_c1 (by omega) hb4 hz]; rfl) | exact ble_c1 (by omega) hb4 hz | exact ble_c2 (by omega) hb4 hz | exact decide_eq_false (by omega) | decide | rfl | (rw [e]; first | rfl | exact fun _ => rfl) | exact e2.symm | exact e3.symm | exact fun _ => (by rw [e]; rfl)
    ·
      first | rfl | (rw [ble_c1 (by omega) hb4 hz]; rfl) | exact ble_c1 (by omega) hb4 hz | exact ble_c2 (by omega) hb4 hz | exact decide_eq_false (by omega) | decide | rfl | (rw [e]; first | rfl | exact fun _ => rfl) | exact e2.symm | exact e3.symm | exact fun _ => (by rw [e]; rfl)
    ·
      first | rfl | (rw [ble_c1 (by omega) hb4 hz]; rfl) | exact ble_c1 (by omega) hb4 hz | exact ble_c2 (by omega) hb4 hz | exact decide_eq_false (by omega) | decide | rfl | (rw [e]; first | rfl | exact fun _ => rfl) | exact e2.symm | exact e3.symm | exact fun _ => (by rw [e]; rfl)
    ·
      first | rfl | (rw [ble_c1 (by omega) hb4 hz]; rfl) | exact ble_c1 (by omega) hb4 hz | exact ble_c2 (by omega) hb4 hz | exact decide_eq_false (by omega) | decide | rfl | (rw [e]; first | rfl | exact fun _ => rfl) | exact e2.symm | exact e3.symm | exact fun _ => (by rw [e]; rfl)
    ·
      first | rfl | (rw [ble_c1 (by omega) hb4 hz]; rfl) | exact ble_c1 (by omega) hb4 hz | exact ble_c2 (by omega) hb4 hz | exact decide_eq_false (by omega) | decide | rfl | (rw [e]; first | rfl | exact fun _ => rfl) | exact e2.symm | exact e3.symm | exact fun _ => (by rw [e]; rfl)
    ·
      first | rfl | (rw [ble_c1 (by omega) hb4 hz]; rfl) | exact ble_c1 (by omega) hb4 hz | exact ble_c2 (by omega) hb4 hz | exact decide_eq_false (by omega) | decide | rfl | (rw [e]; first | rfl | exact fun _ => rfl) | exact e2.symm | exact e3.symm | exact fun _ => (by rw [e]; rfl)
    ·
      first | rfl | (rw [ble_c1 (by omega) hb4 hz]; rfl) | exact ble_c1 (by omega) hb4 hz | exact ble_c2 (by omega) hb4 hz | exact decide_eq_false (by omega) | decide | rfl | (rw [e]; first | rfl | exact fun _ => rfl) | exact e2.symm | exact e3.symm | exact fun _ => (by rw [e]; rfl)
    ·
      first | rfl | (rw [ble_c1 (by omega) hb4 hz]; rfl) | exact ble_c1 (by omega) hb4 hz | exact ble_c2 (by omega) hb4 hz | exact decide_eq_false (by omega) | decide | rfl | (rw [e]; first | rfl | exact fun _ => rfl) | exact e2.symm | exact e3.symm | exact fun _ => (by rw [e]; rfl)
    ·
      first | exact fun _ => rfl | (rw [ble_c1 (by omega) hb4 hz]; rfl) | exact ble_c1 (by omega) hb4 hz | exact ble_c2 (by omega) hb4 hz | exact decide_eq_false (by omega) | decide | rfl | (rw [e]; first | rfl | exact fun _ => rfl) | exact e2.symm | exact e3.symm | exact fun _ => (by rw [e]; rfl)
    ·
      first | (apply Nat.ble_eq_true_of_le; omega) | (simp [Nat.blt_eq]; omega) | (rw [ble_c1 (by omega) hb4 hz]; rfl) | exact ble_c1 (by omega) hb4 hz | exact ble_c2 (by omega) hb4 hz | exact decide_eq_false (by omega) | decide | rfl | (rw [e]; first | rfl | exact fun _ => rfl) | exact e2.symm | exact e3.symm | exact fun _ => (by rw [e]; rfl)
    ·
      first | (apply Nat.ble_eq_true_of_le; omega) | (simp [Nat.blt_eq]; omega) | (rw [ble_c1 (by omega) hb4 hz]; rfl) | exact ble_c1 (by omega) hb4 hz | exact ble_c2 (by omega) hb4 hz | exact decide_eq_false (by omega) | decide | rfl | (rw [e]; first | rfl | exact fun _ => rfl) | exact e2.symm | exact e3.symm | exact fun _ => (by rw [e]; rfl)
    ·
      first | (apply Nat.ble_eq_true_of_le; omega) | (simp [Nat.blt_eq]; omega) | (rw [ble_c1 (by omega) hb4 hz]; rfl) | exact ble_c1 (by omega) hb4 hz | exact ble_c2 (by omega) hb4 hz | exact decide_eq_false (by omega) | decide | rfl | (rw [e]; first | rfl | exact fun _ => rfl) | exact e2.symm | exact e3.symm | exact fun _ => (by rw [e]; rfl)
noncomputable def bleSpec : LSpec := fun la lh => match la, lh with
  | [.ptr z1 z2 z3], [(zt, .arr nt sht rot lent FT), (z4, .cells z5 [.map z6, .sym .i64 st, .sym .u8 c0, .sym .u8 k0, .sym .i64 a0, .sym .i64 f0, .sym .u64 w0, .sym .u64 i0, .symb d0]), (z7, .map z8 M)] =>
    match (Nat.beq zt (gnm 0) && (Nat.beq nt tab.length && (shBeq sht (tab.map kindOfV) && (rot && Nat.beq lent 1)))) && (Nat.beq z1 1 && (Nat.beq z2 0 && (Nat.beq z3 0 && (Nat.beq z4 1 && (Nat.beq z5 9 && (Nat.beq z6 2 && (Nat.beq z7 2 && (Nat.beq z8 110)))))))) with
    | true => some (bleR M st c0 k0 a0 f0 w0 i0 d0 FT)
    | false => none
  | _, _ => none
theorem bleSpec_ok (la : List AV) (lh : List (Nat × AO)) (R : LR) (h : bleSpec la lh = some R) : LocOk Tryd.prog 32 la lh R := by
  unfold bleSpec at h
  split at h
  · rename_i z1 z2 z3 zt nt sht rot lent FT z4 z5 z6 st c0 k0 a0 f0 w0 i0 d0 z7 z8 M
    split at h
    · rename_i hb
      simp only [Bool.and_eq_true] at hb
      obtain ⟨⟨t1, t2, t3, t4, t5⟩, e1, e2, e3, e4, e5, e6, e7, e8⟩ := hb
      have t1 := Nat.eq_of_beq_eq_true t1; subst t1
      have t2 := Nat.eq_of_beq_eq_true t2; subst t2
      have t3 := shBeq_eq t3; subst t3
      subst t4
      have t5 := Nat.eq_of_beq_eq_true t5; subst t5
      have e1 := Nat.eq_of_beq_eq_true e1; subst e1
      have e2 := Nat.eq_of_beq_eq_true e2; subst e2
      have e3 := Nat.eq_of_beq_eq_true e3; subst e3
      have e4 := Nat.eq_of_beq_eq_true e4; subst e4
      have e5 := Nat.eq_of_beq_eq_true e5; subst e5
      have e6 := Nat.eq_of_beq_eq_true e6; subst e6
      have e7 := Nat.eq_of_beq_eq_true e7; subst e7
      have e8 := Nat.eq_of_beq_eq_true e8; subst e8
      cases h
      exact ble_loc M st c0 k0 a0 f0 w0 i0 d0 FT
    · cases h
  · cases h

end Go.Proofs.YtofopjkjmhepeaaDoor
