/-
  Histories: All.
-/
import Derived.Test.YtnecknppajbcdaaHs3Def
set_option linter.unusedSimpArgs false
set_option linter.unusedVariables false
namespace Go.Proofs.Ytnecknppajbcdaa
open Go.Ev
theorem all_1 (n l : Nat) (f : Nat → Nat → AV) (U : List Int → Option Int) (last : Int) : callB EH2 2000 31 [AV.ptr 1 0 0] (allH n l f U last) (allR n l f U last) [(4, Src.nm 4)] [Hint.b true] =
 some ([(0 : Nat) = 0,
 0 = n,
 lessC (some 0) 0 = some n,
 (0 : Nat) = 0,
 n = n,
 (none : Option Nat) = none,
 last = last,
 false = false,
 n ≤ l,
 f = f ∧ plainSh cSh = true ∨ ∀ (i : Nat), i < n → rowOb cSh 0 (f i) (f i),
 ∀ (k : List Int), U k = U k,
 false = false,
 n ≤ 0,
 (cF (fCl f) = fun x x_1 => AV.top) ∧ plainSh (List.map kindOf (ofVal (Value.agg #[Value.int IntKind.i64 0, Value.int IntKind.u8 0, Value.int IntKind.u64 0, Value.int IntKind.u64 0, Value.int IntKind.u8 0, Value.int IntKind.u64 0, Value.int IntKind.i64 0, Value.int IntKind.i64 0, Value.int IntKind.i64 0])).cells) = true ∨ ∀ (i : Nat), i < n → rowOb (List.map kindOf (ofVal (Value.agg #[Value.int IntKind.i64 0, Value.int IntKind.u8 0, Value.int IntKind.u64 0, Value.int IntKind.u64 0, Value.int IntKind.u8 0, Value.int IntKind.u64 0, Value.int IntKind.i64 0, Value.int IntKind.i64 0, Value.int IntKind.i64 0])).cells) 0 (fun x => AV.top) (cF (fCl f) i),
 n.beq 0 = true,
 (n * 72).ble 70368744177664 = true,
 (0 + n).ble l = true,
 Nat.blt 0 n = true]) := by kernel_rfl
theorem all_2 (n l : Nat) (f : Nat → Nat → AV) (U : List Int → Option Int) (last : Int) : callB EH2 2000 31 [AV.ptr 1 0 0] (allH n l f U last) (allR n l f U last) [(4, Src.nm 5)] [Hint.b false] =
 some ([(0 : Nat) = 0,
 n - 0 = n,
 lessC (some n) 0 = some n,
 (0 : Nat) = 0,
 n = n,
 (none : Option Nat) = none,
 last = last,
 false = false,
 n ≤ l,
 f = f ∧ plainSh cSh = true ∨ ∀ (i : Nat), i < n → rowOb cSh 0 (f i) (f i),
 ∀ (k : List Int), U k = U k,
 false = false,
 n ≤ n,
 (cF (fCl f) = fun i j => f (0 + i) j) ∧ plainSh cSh = true ∨ ∀ (i : Nat), i < n → rowOb cSh 0 (fun j => f (0 + i) j) (cF (fCl f) i),
 (Nat.blt 0 (capOr (some n) n) || Nat.beq 0 0) = true,
 (n.ble (capOr (some n) n) && decide (0 ≤ Int.ofNat n)) = true,
 (n.ble (capOr none n) && decide (0 ≤ Int.ofNat n)) = true,
 n.beq 0 = false,
 (n * 72).ble 70368744177664 = true,
 (0 + n).ble l = true,
 Nat.blt 0 n = true]) := by kernel_rfl
theorem all_loc (n l : Nat) (f : Nat → Nat → AV) (U : List Int → Option Int) (last : Int) : LocOk Try.prog 31 [.ptr 1 0 0] (allH n l f U last) (allR n l f U last) := by
  refine loc_of_call EH2_ok (fun hp => ?_)
  have hl : n ≤ l := hp _ (List.mem_cons_self ..)
  have hm : n ≤ 100000 := hp _ (List.mem_cons_of_mem _ (List.mem_cons_self ..))
  have h0n : 0 < n := hp _ (List.mem_cons_of_mem _ (List.mem_cons_of_mem _ (List.mem_cons_self ..)))
  clear hp
  cases h1 : (n.beq 0) with
  | true =>
    refine ⟨2000, _, _, _, all_1 .., (ob_cons rfl (ob_cons ?_ (ob_cons ?_ (ob_cons rfl (ob_cons rfl (ob_cons rfl (ob_cons rfl (ob_cons rfl (ob_cons ?_ (ob_cons (.inl ⟨rfl, rfl⟩) (ob_cons (fun _ => rfl) (ob_cons rfl (ob_cons ?_ (ob_cons ?_ (ob_cons h1 (ob_cons ?_ (ob_cons ?_ (ob_cons ?_ ob_nil))))))))))))))))))⟩
    ·
      first | rfl | (exfalso; have hz := Nat.eq_of_beq_eq_true h1; omega) | (simp [capOr, lessC]; done) | (simp [capOr]; omega) | omega | (intro q; rfl) | (refine .inr (fun i hi => row_c ?_); simp [fCl]; done) | (simp; omega)
    ·
      first | rfl | (exfalso; have hz := Nat.eq_of_beq_eq_true h1; omega) | (simp [capOr, lessC]; done) | (simp [capOr]; omega) | omega | (intro q; rfl) | (refine .inr (fun i hi => row_c ?_); simp [fCl]; done) | (simp; omega)
    ·
      first | exact Nat.le_refl _ | omega | (exfalso; have hz := Nat.eq_of_beq_eq_true h1; omega) | (simp [capOr, lessC]; done) | (simp [capOr]; omega) | omega | (intro q; rfl) | (refine .inr (fun i hi => row_c ?_); simp [fCl]; done) | (simp; omega)
    ·
      first | exact Nat.le_refl _ | omega | (exfalso; have hz := Nat.eq_of_beq_eq_true h1; omega) | (simp [capOr, lessC]; done) | (simp [capOr]; omega) | omega | (intro q; rfl) | (refine .inr (fun i hi => row_c ?_); simp [fCl]; done) | (simp; omega)
    ·
      first | exact .inl ⟨rfl, rfl⟩ | (exfalso; have hz := Nat.eq_of_beq_eq_true h1; omega) | (simp [capOr, lessC]; done) | (simp [capOr]; omega) | omega | (intro q; rfl) | (refine .inr (fun i hi => row_c ?_); simp [fCl]; done) | (simp; omega)
    ·
      first | (apply Nat.ble_eq_true_of_le; omega) | (simp [Nat.blt_eq]; omega) | (exfalso; have hz := Nat.eq_of_beq_eq_true h1; omega) | (simp [capOr, lessC]; done) | (simp [capOr]; omega) | omega | (intro q; rfl) | (refine .inr (fun i hi => row_c ?_); simp [fCl]; done) | (simp; omega)
    ·
      first | (apply Nat.ble_eq_true_of_le; omega) | (simp [Nat.blt_eq]; omega) | (exfalso; have hz := Nat.eq_of_beq_eq_true h1; omega) | (simp [capOr, lessC]; done) | (simp [capOr]; omega) | omega | (intro q; rfl) | (refine .inr (fun i hi => row_c ?_); simp [fCl]; done) | (simp; omega)
    ·
      first | (apply Nat.ble_eq_true_of_le; omega) | (simp [Nat.blt_eq]; omega) | (exfalso; have hz := Nat.eq_of_beq_eq_true h1; omega) | (simp [capOr, lessC]; done) | (simp [capOr]; omega) | omega | (intro q; rfl) | (refine .inr (fun i hi => row_c ?_); simp [fCl]; done) | (simp; omega)
  | false =>
    refine ⟨2000, _, _, _, all_2 .., (ob_cons rfl (ob_cons ?_ (ob_cons ?_ (ob_cons rfl (ob_cons rfl (ob_cons rfl (ob_cons rfl (ob_cons rfl (ob_cons ?_ (ob_cons (.inl ⟨rfl, rfl⟩) (ob_cons (fun _ => rfl) (ob_cons rfl (ob_cons (Nat.le_refl _) (ob_cons ?_ (ob_cons ?_ (ob_cons ?_ (ob_cons ?_ (ob_cons h1 (ob_cons ?_ (ob_cons ?_ (ob_cons ?_ ob_nil)))))))))))))))))))))⟩
    ·
      first | rfl | (exfalso; have hz := Nat.eq_of_beq_eq_true h1; omega) | (simp [capOr, lessC]; done) | (simp [capOr]; omega) | omega | (intro q; rfl) | (refine .inr (fun i hi => row_c ?_); simp [fCl]; done) | (simp; omega)
    ·
      first | rfl | (exfalso; have hz := Nat.eq_of_beq_eq_true h1; omega) | (simp [capOr, lessC]; done) | (simp [capOr]; omega) | omega | (intro q; rfl) | (refine .inr (fun i hi => row_c ?_); simp [fCl]; done) | (simp; omega)
    ·
      first | exact Nat.le_refl _ | omega | (exfalso; have hz := Nat.eq_of_beq_eq_true h1; omega) | (simp [capOr, lessC]; done) | (simp [capOr]; omega) | omega | (intro q; rfl) | (refine .inr (fun i hi => row_c ?_); simp [fCl]; done) | (simp; omega)
    ·
      first | exact .inl ⟨rfl, rfl⟩ | (exfalso; have hz := Nat.eq_of_beq_eq_true h1; omega) | (simp [capOr, lessC]; done) | (simp [capOr]; omega) | omega | (intro q; rfl) | (refine .inr (fun i hi => row_c ?_); simp [fCl]; done) | (simp; omega)
    ·
      first | (apply Nat.ble_eq_true_of_le; omega) | (simp [Nat.blt_eq]; omega) | (exfalso; have hz := Nat.eq_of_beq_eq_true h1; omega) | (simp [capOr, lessC]; done) | (simp [capOr]; omega) | omega | (intro q; rfl) | (refine .inr (fun i hi => row_c ?_); simp [fCl]; done) | (simp; omega)
    ·
      first | (apply Nat.ble_eq_true_of_le; omega) | (simp [Nat.blt_eq]; omega) | (exfalso; have hz := Nat.eq_of_beq_eq_true h1; omega) | (simp [capOr, lessC]; done) | (simp [capOr]; omega) | omega | (intro q; rfl) | (refine .inr (fun i hi => row_c ?_); simp [fCl]; done) | (simp; omega)
    ·
      first | (apply Nat.ble_eq_true_of_le; omega) | (simp [Nat.blt_eq]; omega) | (exfalso; have hz := Nat.eq_of_beq_eq_true h1; omega) | (simp [capOr, lessC]; done) | (simp [capOr]; omega) | omega | (intro q; rfl) | (refine .inr (fun i hi => row_c ?_); simp [fCl]; done) | (simp; omega)
    ·
      first | (apply Nat.ble_eq_true_of_le; omega) | (simp [Nat.blt_eq]; omega) | (exfalso; have hz := Nat.eq_of_beq_eq_true h1; omega) | (simp [capOr, lessC]; done) | (simp [capOr]; omega) | omega | (intro q; rfl) | (refine .inr (fun i hi => row_c ?_); simp [fCl]; done) | (simp; omega)
    ·
      first | (apply Nat.ble_eq_true_of_le; omega) | (simp [Nat.blt_eq]; omega) | (exfalso; have hz := Nat.eq_of_beq_eq_true h1; omega) | (simp [capOr, lessC]; done) | (simp [capOr]; omega) | omega | (intro q; rfl) | (refine .inr (fun i hi => row_c ?_); simp [fCl]; done) | (simp; omega)
    ·
      first | (apply Nat.ble_eq_true_of_le; omega) | (simp [Nat.blt_eq]; omega) | (exfalso; have hz := Nat.eq_of_beq_eq_true h1; omega) | (simp [capOr, lessC]; done) | (simp [capOr]; omega) | omega | (intro q; rfl) | (refine .inr (fun i hi => row_c ?_); simp [fCl]; done) | (simp; omega)
noncomputable def allSpec : LSpec := fun la lh => match la, lh with
  | [.ptr z1 z2 z3], [(z4, .cells z5 [.ss z6 z7 z8 n none, .map z9, .sym .i64 last]), (z10, .arr z11 z12 false l f), (z13, .map z14 U)] =>
    match Nat.beq z1 1 && (Nat.beq z2 0 && (Nat.beq z3 0 && (Nat.beq z4 1 && (Nat.beq z5 3 && (Nat.beq z6 9 && (Nat.beq z7 2 && (Nat.beq z8 0 && (Nat.beq z9 3 && (Nat.beq z10 2 && (Nat.beq z11 9 && (shBeq z12 cSh && (Nat.beq z13 3 && (Nat.beq z14 76))))))))))))) with
    | true => some (allR n l f U last)
    | false => none
  | _, _ => none
theorem allSpec_ok (la : List AV) (lh : List (Nat × AO)) (R : LR) (h : allSpec la lh = some R) : LocOk Try.prog 31 la lh R := by
  unfold allSpec at h
  split at h
  · rename_i z1 z2 z3 z4 z5 z6 z7 z8 n z9 last z10 z11 z12 l f z13 z14 U
    split at h
    · rename_i hb
      simp only [Bool.and_eq_true] at hb
      obtain ⟨e1, e2, e3, e4, e5, e6, e7, e8, e9, e10, e11, e12, e13, e14⟩ := hb
      have e1 := Nat.eq_of_beq_eq_true e1; subst e1
      have e2 := Nat.eq_of_beq_eq_true e2; subst e2
      have e3 := Nat.eq_of_beq_eq_true e3; subst e3
      have e4 := Nat.eq_of_beq_eq_true e4; subst e4
      have e5 := Nat.eq_of_beq_eq_true e5; subst e5
      have e6 := Nat.eq_of_beq_eq_true e6; subst e6
      have e7 := Nat.eq_of_beq_eq_true e7; subst e7
      have e8 := Nat.eq_of_beq_eq_true e8; subst e8
      have e9 := Nat.eq_of_beq_eq_true e9; subst e9
      have e10 := Nat.eq_of_beq_eq_true e10; subst e10
      have e11 := Nat.eq_of_beq_eq_true e11; subst e11
      have e12 := shBeq_eq e12; subst e12
      have e13 := Nat.eq_of_beq_eq_true e13; subst e13
      have e14 := Nat.eq_of_beq_eq_true e14; subst e14
      cases h
      exact all_loc n l f U last
    · cases h
  · cases h

end Go.Proofs.Ytnecknppajbcdaa
