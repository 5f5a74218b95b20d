/-
  Retires: contracts of Sweep and All.
-/
import Derived.Test.YtmlfmmnnbdlabaaNrScDef
set_option linter.unusedSimpArgs false
set_option linter.unusedVariables false
namespace Go.Proofs.Ytmlfmmnnbdlabaa
open Go.Ev
theorem sc11_1 (n : Nat) (l : Nat) (m : Nat) (lm : Nat) (r : Bool) (f : Nat → Nat → AV) (h : Nat → Nat → AV) (M : List Int → Option Int) : callB EA 2000 15 [AV.ptr 1 0 0, AV.ss 1 4 0 m none] (sc11H n l m lm r f h M) (sc11R n l m lm r f h M) [(5, Src.nm 5), (6, Src.nm 6)] [Hint.lp [0, 1, 5, 6, 14, 15, 16] (Ex.exit 0) (swX11 n l m lm r f h (swG (fun i => entOf (f (0 + i))) (swP m h) n) (swS (fun i => entOf (f (0 + i))) (swP m h) n) (swM M (fun i => entOf (f (0 + i))) (swP m h) n)).tmps (swX11 n l m lm r f h (swG (fun i => entOf (f (0 + i))) (swP m h) n) (swS (fun i => entOf (f (0 + i))) (swP m h) n) (swM M (fun i => entOf (f (0 + i))) (swP m h) n)).hp.heap 7 [3], Hint.b true] =
 some ([(0 : Nat) = 0,
 (swG (fun i => entOf (f (0 + i))) (swP m h) n).length - 0 = (swG (fun i => entOf (f (0 + i))) (swP m h) n).length,
 lessC (some (swG (fun i => entOf (f (0 + i))) (swP m h) n).length) 0 = some (swG (fun i => entOf (f (0 + i))) (swP m h) n).length,
 (0 : Nat) = 0,
 (swS (fun i => entOf (f (0 + i))) (swP m h) n).length = (swS (fun i => entOf (f (0 + i))) (swP m h) n).length,
 (none : Option Nat) = none,
 false = false,
 l ≤ l,
 f = f ∧ plainSh eSh = true ∨ ∀ (i : Nat), i < l → rowOb eSh 0 (f i) (f i),
 ∀ (k : List Int), swM M (fun i => entOf (f (0 + i))) (swP m h) n k = swM M (fun i => entOf (f (0 + i))) (swP m h) n k,
 r = r,
 lm ≤ lm,
 h = h ∧ plainSh [CK.bool] = true ∨ ∀ (i : Nat), i < lm → rowOb [CK.bool] 0 (h i) (h i),
 false = false,
 (swG (fun i => entOf (f (0 + i))) (swP m h) n).length ≤ (swG (fun i => entOf (f (0 + i))) (swP m h) n).length,
 entF (entAt (swG (fun i => entOf (f (0 + i))) (swP m h) n)) = entF (entAt (swG (fun i => entOf (f (0 + i))) (swP m h) n)) ∧ plainSh eSh = true ∨ ∀ (i : Nat), i < (swG (fun i => entOf (f (0 + i))) (swP m h) n).length → rowOb eSh 0 (entF (entAt (swG (fun i => entOf (f (0 + i))) (swP m h) n)) i) (entF (entAt (swG (fun i => entOf (f (0 + i))) (swP m h) n)) i),
 false = false,
 (swS (fun i => entOf (f (0 + i))) (swP m h) n).length ≤ (swS (fun i => entOf (f (0 + i))) (swP m h) n).length,
 entF (entAt (swS (fun i => entOf (f (0 + i))) (swP m h) n)) = entF (entAt (swS (fun i => entOf (f (0 + i))) (swP m h) n)) ∧ plainSh eSh = true ∨ ∀ (i : Nat), i < (swS (fun i => entOf (f (0 + i))) (swP m h) n).length → rowOb eSh 0 (entF (entAt (swS (fun i => entOf (f (0 + i))) (swP m h) n)) i) (entF (entAt (swS (fun i => entOf (f (0 + i))) (swP m h) n)) i),
 (Nat.blt 0 (capOr (some (swG (fun i => entOf (f (0 + i))) (swP m h) n).length) (swG (fun i => entOf (f (0 + i))) (swP m h) n).length) || Nat.beq 0 0) = true,
 ((swG (fun i => entOf (f (0 + i))) (swP m h) n).length.ble (capOr (some (swG (fun i => entOf (f (0 + i))) (swP m h) n).length) (swG (fun i => entOf (f (0 + i))) (swP m h) n).length) && decide (0 ≤ Int.ofNat (swG (fun i => entOf (f (0 + i))) (swP m h) n).length)) = true,
 ((swG (fun i => entOf (f (0 + i))) (swP m h) n).length.ble (capOr none (swG (fun i => entOf (f (0 + i))) (swP m h) n).length) && decide (0 ≤ Int.ofNat (swG (fun i => entOf (f (0 + i))) (swP m h) n).length)) = true,
 swLP11 n l m lm r f h M (swG (fun i => entOf (f (0 + i))) (swP m h) n) (swS (fun i => entOf (f (0 + i))) (swP m h) n) (swM M (fun i => entOf (f (0 + i))) (swP m h) n)]) := by kernel_rfl
theorem sc11_loc (n : Nat) (l : Nat) (m : Nat) (lm : Nat) (r : Bool) (f : Nat → Nat → AV) (h : Nat → Nat → AV) (M : List Int → Option Int) : LocOk Try.prog 15 [.ptr 1 0 0, .ss 1 4 0 m none] (sc11H n l m lm r f h M) (sc11R n l m lm r f h M) := by
  refine loc_of_call EA_ok (fun hp => ?_)
  have hl : n ≤ l := hp _ (List.mem_cons_self ..)
  have hlim : n ≤ 1000000 := hp _ (List.mem_cons_of_mem _ (List.mem_cons_self ..))
  have hm : m ≤ lm := hp _ (List.mem_cons_of_mem _ (List.mem_cons_of_mem _ (List.mem_cons_self ..)))
  have hml : m ≤ 1000000 := hp _ (List.mem_cons_of_mem _ (List.mem_cons_of_mem _ (List.mem_cons_of_mem _ (List.mem_cons_self ..))))
  have hG : (swG (fun i => entOf (f (0 + i))) (swP m h) n) ≠ [] := hp _ (List.mem_cons_of_mem _ (List.mem_cons_of_mem _ (List.mem_cons_of_mem _ (List.mem_cons_of_mem _ (List.mem_cons_self ..)))))
  have hS : (swS (fun i => entOf (f (0 + i))) (swP m h) n) ≠ [] := hp _ (List.mem_cons_of_mem _ (List.mem_cons_of_mem _ (List.mem_cons_of_mem _ (List.mem_cons_of_mem _ (List.mem_cons_of_mem _ (List.mem_cons_self ..))))))
  clear hp
  have hGl : (swG (fun i => entOf (f (0 + i))) (swP m h) n).length ≤ n := swG_len _ _ n
  have hSl : (swS (fun i => entOf (f (0 + i))) (swP m h) n).length ≤ n := swS_len _ _ n
  have hlp : swLP11 n l m lm r f h M (swG (fun i => entOf (f (0 + i))) (swP m h) n) (swS (fun i => entOf (f (0 + i))) (swP m h) n) (swM M (fun i => entOf (f (0 + i))) (swP m h) n) := by
    unfold swLP11
    have q := sw_lp n l m lm r f h M hl hlim hm hml
    unfold swLP at q
    rw [swW11 n l m lm r f h hG hS] at q
    exact q
  refine ⟨2000, _, _, _, sc11_1 .., (ob_cons rfl (ob_cons ?_ (ob_cons ?_ (ob_cons rfl (ob_cons rfl (ob_cons rfl (ob_cons rfl (ob_cons (Nat.le_refl _) (ob_cons (.inl ⟨rfl, rfl⟩) (ob_cons (fun _ => rfl) (ob_cons rfl (ob_cons (Nat.le_refl _) (ob_cons (.inl ⟨rfl, rfl⟩) (ob_cons rfl (ob_cons (Nat.le_refl _) (ob_cons (.inl ⟨rfl, rfl⟩) (ob_cons rfl (ob_cons (Nat.le_refl _) (ob_cons (.inl ⟨rfl, rfl⟩) (ob_cons ?_ (ob_cons ?_ (ob_cons ?_ (ob_cons ?_ ob_nil)))))))))))))))))))))))⟩
  ·
    first | rfl | exact hlp | with_reducible assumption | (simp [capOr]; done) | (simp [capOr]; omega)
  ·
    first | rfl | exact hlp | with_reducible assumption | (simp [capOr]; done) | (simp [capOr]; omega)
  ·
    first | (apply Nat.ble_eq_true_of_le; omega) | (simp [Nat.blt_eq]; omega) | exact hlp | with_reducible assumption | (simp [capOr]; done) | (simp [capOr]; omega)
  ·
    first | (apply Nat.ble_eq_true_of_le; omega) | (simp [Nat.blt_eq]; omega) | exact hlp | with_reducible assumption | (simp [capOr]; done) | (simp [capOr]; omega)
  ·
    first | (apply Nat.ble_eq_true_of_le; omega) | (simp [Nat.blt_eq]; omega) | exact hlp | with_reducible assumption | (simp [capOr]; done) | (simp [capOr]; omega)
  ·
    first | trivial | exact hlp | with_reducible assumption | (simp [capOr]; done) | (simp [capOr]; omega)
noncomputable def sc11Spec : LSpec := fun la lh => match la, lh with
  | [.ptr z1 z2 z3, .ss z4 z5 z6 m none], [(z7, .cells z8 [.ss z9 z10 z11 n none, .map z12]), (z13, .arr z14 z15 false l f), (z16, .map z17 M), (z18, .arr z19 z20 r lm h)] =>
    match Nat.beq z1 1 && (Nat.beq z2 0 && (Nat.beq z3 0 && (Nat.beq z4 1 && (Nat.beq z5 4 && (Nat.beq z6 0 && (Nat.beq z7 1 && (Nat.beq z8 2 && (Nat.beq z9 6 && (Nat.beq z10 2 && (Nat.beq z11 0 && (Nat.beq z12 3 && (Nat.beq z13 2 && (Nat.beq z14 6 && (shBeq z15 eSh && (Nat.beq z16 3 && (Nat.beq z17 119 && (Nat.beq z18 4 && (Nat.beq z19 1 && (shBeq z20 bSh))))))))))))))))))) with
    | true => some (sc11R n l m lm r f h M)
    | false => none
  | _, _ => none
theorem sc11Spec_ok (la : List AV) (lh : List (Nat × AO)) (R : LR) (h : sc11Spec la lh = some R) : LocOk Try.prog 15 la lh R := by
  unfold sc11Spec at h
  split at h
  · rename_i z1 z2 z3 z4 z5 z6 m z7 z8 z9 z10 z11 n z12 z13 z14 z15 l f z16 z17 M z18 z19 z20 r lm h
    split at h
    · rename_i hb
      simp only [Bool.and_eq_true] at hb
      obtain ⟨e1, e2, e3, e4, e5, e6, e7, e8, e9, e10, e11, e12, e13, e14, e15, e16, e17, e18, e19, e20⟩ := hb
      have e1 := Nat.eq_of_beq_eq_true e1; subst e1
      have e2 := Nat.eq_of_beq_eq_true e2; subst e2
      have e3 := Nat.eq_of_beq_eq_true e3; subst e3
      have e4 := Nat.eq_of_beq_eq_true e4; subst e4
      have e5 := Nat.eq_of_beq_eq_true e5; subst e5
      have e6 := Nat.eq_of_beq_eq_true e6; subst e6
      have e7 := Nat.eq_of_beq_eq_true e7; subst e7
      have e8 := Nat.eq_of_beq_eq_true e8; subst e8
      have e9 := Nat.eq_of_beq_eq_true e9; subst e9
      have e10 := Nat.eq_of_beq_eq_true e10; subst e10
      have e11 := Nat.eq_of_beq_eq_true e11; subst e11
      have e12 := Nat.eq_of_beq_eq_true e12; subst e12
      have e13 := Nat.eq_of_beq_eq_true e13; subst e13
      have e14 := Nat.eq_of_beq_eq_true e14; subst e14
      have e15 := shBeq_eq e15; subst e15
      have e16 := Nat.eq_of_beq_eq_true e16; subst e16
      have e17 := Nat.eq_of_beq_eq_true e17; subst e17
      have e18 := Nat.eq_of_beq_eq_true e18; subst e18
      have e19 := Nat.eq_of_beq_eq_true e19; subst e19
      have e20 := shBeq_eq e20; subst e20
      cases h
      exact sc11_loc n l m lm r f h M
    · cases h
  · cases h

theorem sc10_1 (n : Nat) (l : Nat) (m : Nat) (lm : Nat) (r : Bool) (f : Nat → Nat → AV) (h : Nat → Nat → AV) (M : List Int → Option Int) : callB EA 2000 15 [AV.ptr 1 0 0, AV.ss 1 4 0 m none] (sc10H n l m lm r f h M) (sc10R n l m lm r f h M) [(5, Src.nm 5)] [Hint.lp [0, 1, 5, 6, 14, 15, 16] (Ex.exit 0) (swX10 n l m lm r f h (swG (fun i => entOf (f (0 + i))) (swP m h) n) (swS (fun i => entOf (f (0 + i))) (swP m h) n) (swM M (fun i => entOf (f (0 + i))) (swP m h) n)).tmps (swX10 n l m lm r f h (swG (fun i => entOf (f (0 + i))) (swP m h) n) (swS (fun i => entOf (f (0 + i))) (swP m h) n) (swM M (fun i => entOf (f (0 + i))) (swP m h) n)).hp.heap 7 [3], Hint.b true] =
 some ([(0 : Nat) = 0,
 (swG (fun i => entOf (f (0 + i))) (swP m h) n).length - 0 = (swG (fun i => entOf (f (0 + i))) (swP m h) n).length,
 lessC (some (swG (fun i => entOf (f (0 + i))) (swP m h) n).length) 0 = some (swG (fun i => entOf (f (0 + i))) (swP m h) n).length,
 false = false,
 l ≤ l,
 f = f ∧ plainSh eSh = true ∨ ∀ (i : Nat), i < l → rowOb eSh 0 (f i) (f i),
 ∀ (k : List Int), swM M (fun i => entOf (f (0 + i))) (swP m h) n k = swM M (fun i => entOf (f (0 + i))) (swP m h) n k,
 r = r,
 lm ≤ lm,
 h = h ∧ plainSh [CK.bool] = true ∨ ∀ (i : Nat), i < lm → rowOb [CK.bool] 0 (h i) (h i),
 false = false,
 (swG (fun i => entOf (f (0 + i))) (swP m h) n).length ≤ (swG (fun i => entOf (f (0 + i))) (swP m h) n).length,
 entF (entAt (swG (fun i => entOf (f (0 + i))) (swP m h) n)) = entF (entAt (swG (fun i => entOf (f (0 + i))) (swP m h) n)) ∧ plainSh eSh = true ∨ ∀ (i : Nat), i < (swG (fun i => entOf (f (0 + i))) (swP m h) n).length → rowOb eSh 0 (entF (entAt (swG (fun i => entOf (f (0 + i))) (swP m h) n)) i) (entF (entAt (swG (fun i => entOf (f (0 + i))) (swP m h) n)) i),
 (Nat.blt 0 (capOr (some (swG (fun i => entOf (f (0 + i))) (swP m h) n).length) (swG (fun i => entOf (f (0 + i))) (swP m h) n).length) || Nat.beq 0 0) = true,
 ((swG (fun i => entOf (f (0 + i))) (swP m h) n).length.ble (capOr (some (swG (fun i => entOf (f (0 + i))) (swP m h) n).length) (swG (fun i => entOf (f (0 + i))) (swP m h) n).length) && decide (0 ≤ Int.ofNat (swG (fun i => entOf (f (0 + i))) (swP m h) n).length)) = true,
 ((swG (fun i => entOf (f (0 + i))) (swP m h) n).length.ble (capOr none (swG (fun i => entOf (f (0 + i))) (swP m h) n).length) && decide (0 ≤ Int.ofNat (swG (fun i => entOf (f (0 + i))) (swP m h) n).length)) = true,
 swLP10 n l m lm r f h M (swG (fun i => entOf (f (0 + i))) (swP m h) n) (swS (fun i => entOf (f (0 + i))) (swP m h) n) (swM M (fun i => entOf (f (0 + i))) (swP m h) n)]) := by kernel_rfl
theorem sc10_loc (n : Nat) (l : Nat) (m : Nat) (lm : Nat) (r : Bool) (f : Nat → Nat → AV) (h : Nat → Nat → AV) (M : List Int → Option Int) : LocOk Try.prog 15 [.ptr 1 0 0, .ss 1 4 0 m none] (sc10H n l m lm r f h M) (sc10R n l m lm r f h M) := by
  refine loc_of_call EA_ok (fun hp => ?_)
  have hl : n ≤ l := hp _ (List.mem_cons_self ..)
  have hlim : n ≤ 1000000 := hp _ (List.mem_cons_of_mem _ (List.mem_cons_self ..))
  have hm : m ≤ lm := hp _ (List.mem_cons_of_mem _ (List.mem_cons_of_mem _ (List.mem_cons_self ..)))
  have hml : m ≤ 1000000 := hp _ (List.mem_cons_of_mem _ (List.mem_cons_of_mem _ (List.mem_cons_of_mem _ (List.mem_cons_self ..))))
  have hG : (swG (fun i => entOf (f (0 + i))) (swP m h) n) ≠ [] := hp _ (List.mem_cons_of_mem _ (List.mem_cons_of_mem _ (List.mem_cons_of_mem _ (List.mem_cons_of_mem _ (List.mem_cons_self ..)))))
  have hS : (swS (fun i => entOf (f (0 + i))) (swP m h) n) = [] := hp _ (List.mem_cons_of_mem _ (List.mem_cons_of_mem _ (List.mem_cons_of_mem _ (List.mem_cons_of_mem _ (List.mem_cons_of_mem _ (List.mem_cons_self ..))))))
  clear hp
  have hGl : (swG (fun i => entOf (f (0 + i))) (swP m h) n).length ≤ n := swG_len _ _ n
  have hSl : (swS (fun i => entOf (f (0 + i))) (swP m h) n).length ≤ n := swS_len _ _ n
  have hlp : swLP10 n l m lm r f h M (swG (fun i => entOf (f (0 + i))) (swP m h) n) (swS (fun i => entOf (f (0 + i))) (swP m h) n) (swM M (fun i => entOf (f (0 + i))) (swP m h) n) := by
    unfold swLP10
    have q := sw_lp n l m lm r f h M hl hlim hm hml
    unfold swLP at q
    rw [swW10 n l m lm r f h hG hS] at q
    exact q
  refine ⟨2000, _, _, _, sc10_1 .., (ob_cons rfl (ob_cons ?_ (ob_cons ?_ (ob_cons rfl (ob_cons (Nat.le_refl _) (ob_cons (.inl ⟨rfl, rfl⟩) (ob_cons (fun _ => rfl) (ob_cons rfl (ob_cons (Nat.le_refl _) (ob_cons (.inl ⟨rfl, rfl⟩) (ob_cons rfl (ob_cons (Nat.le_refl _) (ob_cons (.inl ⟨rfl, rfl⟩) (ob_cons ?_ (ob_cons ?_ (ob_cons ?_ (ob_cons ?_ ob_nil)))))))))))))))))⟩
  ·
    first | rfl | exact hlp | with_reducible assumption | (simp [capOr]; done) | (simp [capOr]; omega)
  ·
    first | rfl | exact hlp | with_reducible assumption | (simp [capOr]; done) | (simp [capOr]; omega)
  ·
    first | (apply Nat.ble_eq_true_of_le; omega) | (simp [Nat.blt_eq]; omega) | exact hlp | with_reducible assumption | (simp [capOr]; done) | (simp [capOr]; omega)
  ·
    first | (apply Nat.ble_eq_true_of_le; omega) | (simp [Nat.blt_eq]; omega) | exact hlp | with_reducible assumption | (simp [capOr]; done) | (simp [capOr]; omega)
  ·
    first | (apply Nat.ble_eq_true_of_le; omega) | (simp [Nat.blt_eq]; omega) | exact hlp | with_reducible assumption | (simp [capOr]; done) | (simp [capOr]; omega)
  ·
    first | trivial | exact hlp | with_reducible assumption | (simp [capOr]; done) | (simp [capOr]; omega)
noncomputable def sc10Spec : LSpec := fun la lh => match la, lh with
  | [.ptr z1 z2 z3, .ss z4 z5 z6 m none], [(z7, .cells z8 [.ss z9 z10 z11 n none, .map z12]), (z13, .arr z14 z15 false l f), (z16, .map z17 M), (z18, .arr z19 z20 r lm h)] =>
    match Nat.beq z1 1 && (Nat.beq z2 0 && (Nat.beq z3 0 && (Nat.beq z4 1 && (Nat.beq z5 4 && (Nat.beq z6 0 && (Nat.beq z7 1 && (Nat.beq z8 2 && (Nat.beq z9 6 && (Nat.beq z10 2 && (Nat.beq z11 0 && (Nat.beq z12 3 && (Nat.beq z13 2 && (Nat.beq z14 6 && (shBeq z15 eSh && (Nat.beq z16 3 && (Nat.beq z17 119 && (Nat.beq z18 4 && (Nat.beq z19 1 && (shBeq z20 bSh))))))))))))))))))) with
    | true => some (sc10R n l m lm r f h M)
    | false => none
  | _, _ => none
theorem sc10Spec_ok (la : List AV) (lh : List (Nat × AO)) (R : LR) (h : sc10Spec la lh = some R) : LocOk Try.prog 15 la lh R := by
  unfold sc10Spec at h
  split at h
  · rename_i z1 z2 z3 z4 z5 z6 m z7 z8 z9 z10 z11 n z12 z13 z14 z15 l f z16 z17 M z18 z19 z20 r lm h
    split at h
    · rename_i hb
      simp only [Bool.and_eq_true] at hb
      obtain ⟨e1, e2, e3, e4, e5, e6, e7, e8, e9, e10, e11, e12, e13, e14, e15, e16, e17, e18, e19, e20⟩ := hb
      have e1 := Nat.eq_of_beq_eq_true e1; subst e1
      have e2 := Nat.eq_of_beq_eq_true e2; subst e2
      have e3 := Nat.eq_of_beq_eq_true e3; subst e3
      have e4 := Nat.eq_of_beq_eq_true e4; subst e4
      have e5 := Nat.eq_of_beq_eq_true e5; subst e5
      have e6 := Nat.eq_of_beq_eq_true e6; subst e6
      have e7 := Nat.eq_of_beq_eq_true e7; subst e7
      have e8 := Nat.eq_of_beq_eq_true e8; subst e8
      have e9 := Nat.eq_of_beq_eq_true e9; subst e9
      have e10 := Nat.eq_of_beq_eq_true e10; subst e10
      have e11 := Nat.eq_of_beq_eq_true e11; subst e11
      have e12 := Nat.eq_of_beq_eq_true e12; subst e12
      have e13 := Nat.eq_of_beq_eq_true e13; subst e13
      have e14 := Nat.eq_of_beq_eq_true e14; subst e14
      have e15 := shBeq_eq e15; subst e15
      have e16 := Nat.eq_of_beq_eq_true e16; subst e16
      have e17 := Nat.eq_of_beq_eq_true e17; subst e17
      have e18 := Nat.eq_of_beq_eq_true e18; subst e18
      have e19 := Nat.eq_of_beq_eq_true e19; subst e19
      have e20 := shBeq_eq e20; subst e20
      cases h
      exact sc10_loc n l m lm r f h M
    · cases h
  · cases h

theorem sc01_1 (n : Nat) (l : Nat) (m : Nat) (lm : Nat) (r : Bool) (f : Nat → Nat → AV) (h : Nat → Nat → AV) (M : List Int → Option Int) : callB EA 2000 15 [AV.ptr 1 0 0, AV.ss 1 4 0 m none] (sc01H n l m lm r f h M) (sc01R n l m lm r f h M) [(6, Src.nm 6)] [Hint.lp [0, 1, 5, 6, 14, 15, 16] (Ex.exit 0) (swX01 n l m lm r f h (swG (fun i => entOf (f (0 + i))) (swP m h) n) (swS (fun i => entOf (f (0 + i))) (swP m h) n) (swM M (fun i => entOf (f (0 + i))) (swP m h) n)).tmps (swX01 n l m lm r f h (swG (fun i => entOf (f (0 + i))) (swP m h) n) (swS (fun i => entOf (f (0 + i))) (swP m h) n) (swM M (fun i => entOf (f (0 + i))) (swP m h) n)).hp.heap 7 [3], Hint.b true] =
 some ([(0 : Nat) = 0,
 (swS (fun i => entOf (f (0 + i))) (swP m h) n).length = (swS (fun i => entOf (f (0 + i))) (swP m h) n).length,
 (none : Option Nat) = none,
 false = false,
 l ≤ l,
 f = f ∧ plainSh eSh = true ∨ ∀ (i : Nat), i < l → rowOb eSh 0 (f i) (f i),
 ∀ (k : List Int), swM M (fun i => entOf (f (0 + i))) (swP m h) n k = swM M (fun i => entOf (f (0 + i))) (swP m h) n k,
 r = r,
 lm ≤ lm,
 h = h ∧ plainSh [CK.bool] = true ∨ ∀ (i : Nat), i < lm → rowOb [CK.bool] 0 (h i) (h i),
 false = false,
 (swS (fun i => entOf (f (0 + i))) (swP m h) n).length ≤ (swS (fun i => entOf (f (0 + i))) (swP m h) n).length,
 entF (entAt (swS (fun i => entOf (f (0 + i))) (swP m h) n)) = entF (entAt (swS (fun i => entOf (f (0 + i))) (swP m h) n)) ∧ plainSh eSh = true ∨ ∀ (i : Nat), i < (swS (fun i => entOf (f (0 + i))) (swP m h) n).length → rowOb eSh 0 (entF (entAt (swS (fun i => entOf (f (0 + i))) (swP m h) n)) i) (entF (entAt (swS (fun i => entOf (f (0 + i))) (swP m h) n)) i),
 swLP01 n l m lm r f h M (swG (fun i => entOf (f (0 + i))) (swP m h) n) (swS (fun i => entOf (f (0 + i))) (swP m h) n) (swM M (fun i => entOf (f (0 + i))) (swP m h) n)]) := by kernel_rfl
theorem sc01_loc (n : Nat) (l : Nat) (m : Nat) (lm : Nat) (r : Bool) (f : Nat → Nat → AV) (h : Nat → Nat → AV) (M : List Int → Option Int) : LocOk Try.prog 15 [.ptr 1 0 0, .ss 1 4 0 m none] (sc01H n l m lm r f h M) (sc01R n l m lm r f h M) := by
  refine loc_of_call EA_ok (fun hp => ?_)
  have hl : n ≤ l := hp _ (List.mem_cons_self ..)
  have hlim : n ≤ 1000000 := hp _ (List.mem_cons_of_mem _ (List.mem_cons_self ..))
  have hm : m ≤ lm := hp _ (List.mem_cons_of_mem _ (List.mem_cons_of_mem _ (List.mem_cons_self ..)))
  have hml : m ≤ 1000000 := hp _ (List.mem_cons_of_mem _ (List.mem_cons_of_mem _ (List.mem_cons_of_mem _ (List.mem_cons_self ..))))
  have hG : (swG (fun i => entOf (f (0 + i))) (swP m h) n) = [] := hp _ (List.mem_cons_of_mem _ (List.mem_cons_of_mem _ (List.mem_cons_of_mem _ (List.mem_cons_of_mem _ (List.mem_cons_self ..)))))
  have hS : (swS (fun i => entOf (f (0 + i))) (swP m h) n) ≠ [] := hp _ (List.mem_cons_of_mem _ (List.mem_cons_of_mem _ (List.mem_cons_of_mem _ (List.mem_cons_of_mem _ (List.mem_cons_of_mem _ (List.mem_cons_self ..))))))
  clear hp
  have hGl : (swG (fun i => entOf (f (0 + i))) (swP m h) n).length ≤ n := swG_len _ _ n
  have hSl : (swS (fun i => entOf (f (0 + i))) (swP m h) n).length ≤ n := swS_len _ _ n
  have hlp : swLP01 n l m lm r f h M (swG (fun i => entOf (f (0 + i))) (swP m h) n) (swS (fun i => entOf (f (0 + i))) (swP m h) n) (swM M (fun i => entOf (f (0 + i))) (swP m h) n) := by
    unfold swLP01
    have q := sw_lp n l m lm r f h M hl hlim hm hml
    unfold swLP at q
    rw [swW01 n l m lm r f h hG hS] at q
    exact q
  refine ⟨2000, _, _, _, sc01_1 .., (ob_cons rfl (ob_cons rfl (ob_cons rfl (ob_cons rfl (ob_cons (Nat.le_refl _) (ob_cons (.inl ⟨rfl, rfl⟩) (ob_cons (fun _ => rfl) (ob_cons rfl (ob_cons (Nat.le_refl _) (ob_cons (.inl ⟨rfl, rfl⟩) (ob_cons rfl (ob_cons (Nat.le_refl _) (ob_cons (.inl ⟨rfl, rfl⟩) (ob_cons ?_ ob_nil))))))))))))))⟩
  ·
    first | trivial | exact hlp | with_reducible assumption | (simp [capOr]; done) | (simp [capOr]; omega)
noncomputable def sc01Spec : LSpec := fun la lh => match la, lh with
  | [.ptr z1 z2 z3, .ss z4 z5 z6 m none], [(z7, .cells z8 [.ss z9 z10 z11 n none, .map z12]), (z13, .arr z14 z15 false l f), (z16, .map z17 M), (z18, .arr z19 z20 r lm h)] =>
    match Nat.beq z1 1 && (Nat.beq z2 0 && (Nat.beq z3 0 && (Nat.beq z4 1 && (Nat.beq z5 4 && (Nat.beq z6 0 && (Nat.beq z7 1 && (Nat.beq z8 2 && (Nat.beq z9 6 && (Nat.beq z10 2 && (Nat.beq z11 0 && (Nat.beq z12 3 && (Nat.beq z13 2 && (Nat.beq z14 6 && (shBeq z15 eSh && (Nat.beq z16 3 && (Nat.beq z17 119 && (Nat.beq z18 4 && (Nat.beq z19 1 && (shBeq z20 bSh))))))))))))))))))) with
    | true => some (sc01R n l m lm r f h M)
    | false => none
  | _, _ => none
theorem sc01Spec_ok (la : List AV) (lh : List (Nat × AO)) (R : LR) (h : sc01Spec la lh = some R) : LocOk Try.prog 15 la lh R := by
  unfold sc01Spec at h
  split at h
  · rename_i z1 z2 z3 z4 z5 z6 m z7 z8 z9 z10 z11 n z12 z13 z14 z15 l f z16 z17 M z18 z19 z20 r lm h
    split at h
    · rename_i hb
      simp only [Bool.and_eq_true] at hb
      obtain ⟨e1, e2, e3, e4, e5, e6, e7, e8, e9, e10, e11, e12, e13, e14, e15, e16, e17, e18, e19, e20⟩ := hb
      have e1 := Nat.eq_of_beq_eq_true e1; subst e1
      have e2 := Nat.eq_of_beq_eq_true e2; subst e2
      have e3 := Nat.eq_of_beq_eq_true e3; subst e3
      have e4 := Nat.eq_of_beq_eq_true e4; subst e4
      have e5 := Nat.eq_of_beq_eq_true e5; subst e5
      have e6 := Nat.eq_of_beq_eq_true e6; subst e6
      have e7 := Nat.eq_of_beq_eq_true e7; subst e7
      have e8 := Nat.eq_of_beq_eq_true e8; subst e8
      have e9 := Nat.eq_of_beq_eq_true e9; subst e9
      have e10 := Nat.eq_of_beq_eq_true e10; subst e10
      have e11 := Nat.eq_of_beq_eq_true e11; subst e11
      have e12 := Nat.eq_of_beq_eq_true e12; subst e12
      have e13 := Nat.eq_of_beq_eq_true e13; subst e13
      have e14 := Nat.eq_of_beq_eq_true e14; subst e14
      have e15 := shBeq_eq e15; subst e15
      have e16 := Nat.eq_of_beq_eq_true e16; subst e16
      have e17 := Nat.eq_of_beq_eq_true e17; subst e17
      have e18 := Nat.eq_of_beq_eq_true e18; subst e18
      have e19 := Nat.eq_of_beq_eq_true e19; subst e19
      have e20 := shBeq_eq e20; subst e20
      cases h
      exact sc01_loc n l m lm r f h M
    · cases h
  · cases h

theorem snc_1 (n : Nat) (l : Nat) (f : Nat → Nat → AV) (M : List Int → Option Int) : callB EA 2000 15 [AV.ptr 1 0 0, AV.nils] (sncH n l f M) (sncR n l f M) [(4, Src.nm 6)] [Hint.lp [0, 1, 5, 6, 14, 15, 16] (Ex.exit 0) (snX01 n l 0 0 false f f [] (swS (fun i => entOf (f (0 + i))) (fun x => false) n) M).tmps (snX01 n l 0 0 false f f [] (swS (fun i => entOf (f (0 + i))) (fun x => false) n) M).hp.heap 7 [], Hint.b true] =
 some ([(0 : Nat) = 0,
 (swS (fun i => entOf (f (0 + i))) (fun x => false) n).length = n,
 (none : Option Nat) = none,
 false = false,
 l ≤ l,
 f = f ∧ plainSh eSh = true ∨ ∀ (i : Nat), i < l → rowOb eSh 0 (f i) (f i),
 ∀ (k : List Int), M k = M k,
 false = false,
 n ≤ (swS (fun i => entOf (f (0 + i))) (fun x => false) n).length,
 (entF fun i => entOf (f (0 + i))) = entF (entAt (swS (fun i => entOf (f (0 + i))) (fun x => false) n)) ∧ plainSh eSh = true ∨ ∀ (i : Nat), i < n → rowOb eSh 0 (entF (entAt (swS (fun i => entOf (f (0 + i))) (fun x => false) n)) i) (entF (fun i => entOf (f (0 + i))) i),
 snLP01 n l 0 0 false f f M (swS (fun i => entOf (f (0 + i))) (fun x => false) n)]) := by kernel_rfl
theorem snc_loc (n : Nat) (l : Nat) (f : Nat → Nat → AV) (M : List Int → Option Int) : LocOk Try.prog 15 [.ptr 1 0 0, .nils] (sncH n l f M) (sncR n l f M) := by
  refine loc_of_call EA_ok (fun hp => ?_)
  have hl : n ≤ l := hp _ (List.mem_cons_self ..)
  have hlim : n ≤ 1000000 := hp _ (List.mem_cons_of_mem _ (List.mem_cons_self ..))
  have hn : 0 < n := hp _ (List.mem_cons_of_mem _ (List.mem_cons_of_mem _ (List.mem_cons_self ..)))
  clear hp
  have hAl := swS_all (fun i => entOf (f (0 + i))) n
  have hS : (swS (fun i => entOf (f (0 + i))) (fun _ => false) n) ≠ [] := by
    intro e
    have q := swS_all (fun i => entOf (f (0 + i))) n
    rw [e] at q; simp at q; omega
  have hSl : (swS (fun i => entOf (f (0 + i))) (fun _ => false) n).length ≤ n := swS_len _ _ n
  have hlp : snLP01 n l 0 0 false f f M (swS (fun i => entOf (f (0 + i))) (fun _ => false) n) := by
    unfold snLP01
    have q := sn_lp n l 0 0 false f f M hl hlim
    unfold snLP at q
    rw [snW01 n l 0 0 false f f rfl hS] at q
    exact q
  refine ⟨2000, _, _, _, snc_1 .., (ob_cons rfl (ob_cons ?_ (ob_cons rfl (ob_cons rfl (ob_cons (Nat.le_refl _) (ob_cons (.inl ⟨rfl, rfl⟩) (ob_cons (fun _ => rfl) (ob_cons rfl (ob_cons ?_ (ob_cons ?_ (ob_cons ?_ ob_nil)))))))))))⟩
  ·
    first | rfl | exact hlp | with_reducible assumption | (simp [capOr]; done) | (simp [capOr]; omega) | exact hAl | (rw [hAl]; exact Nat.le_refl _) | exact .inr (stay_rows f)
  ·
    first | exact Nat.le_refl _ | omega | exact hlp | with_reducible assumption | (simp [capOr]; done) | (simp [capOr]; omega) | exact hAl | (rw [hAl]; exact Nat.le_refl _) | exact .inr (stay_rows f)
  ·
    first | exact .inl ⟨rfl, rfl⟩ | exact hlp | with_reducible assumption | (simp [capOr]; done) | (simp [capOr]; omega) | exact hAl | (rw [hAl]; exact Nat.le_refl _) | exact .inr (stay_rows f)
  ·
    first | trivial | exact hlp | with_reducible assumption | (simp [capOr]; done) | (simp [capOr]; omega) | exact hAl | (rw [hAl]; exact Nat.le_refl _) | exact .inr (stay_rows f)
noncomputable def sncSpec : LSpec := fun la lh => match la, lh with
  | [.ptr z1 z2 z3, .nils], [(z4, .cells z5 [.ss z6 z7 z8 n none, .map z9]), (z10, .arr z11 z12 false l f), (z13, .map z14 M)] =>
    match Nat.beq z1 1 && (Nat.beq z2 0 && (Nat.beq z3 0 && (Nat.beq z4 1 && (Nat.beq z5 2 && (Nat.beq z6 6 && (Nat.beq z7 2 && (Nat.beq z8 0 && (Nat.beq z9 3 && (Nat.beq z10 2 && (Nat.beq z11 6 && (shBeq z12 eSh && (Nat.beq z13 3 && (Nat.beq z14 119))))))))))))) with
    | true => some (sncR n l f M)
    | false => none
  | _, _ => none
theorem sncSpec_ok (la : List AV) (lh : List (Nat × AO)) (R : LR) (h : sncSpec la lh = some R) : LocOk Try.prog 15 la lh R := by
  unfold sncSpec at h
  split at h
  · rename_i z1 z2 z3 z4 z5 z6 z7 z8 n z9 z10 z11 z12 l f z13 z14 M
    split at h
    · rename_i hb
      simp only [Bool.and_eq_true] at hb
      obtain ⟨e1, e2, e3, e4, e5, e6, e7, e8, e9, e10, e11, e12, e13, e14⟩ := hb
      have e1 := Nat.eq_of_beq_eq_true e1; subst e1
      have e2 := Nat.eq_of_beq_eq_true e2; subst e2
      have e3 := Nat.eq_of_beq_eq_true e3; subst e3
      have e4 := Nat.eq_of_beq_eq_true e4; subst e4
      have e5 := Nat.eq_of_beq_eq_true e5; subst e5
      have e6 := Nat.eq_of_beq_eq_true e6; subst e6
      have e7 := Nat.eq_of_beq_eq_true e7; subst e7
      have e8 := Nat.eq_of_beq_eq_true e8; subst e8
      have e9 := Nat.eq_of_beq_eq_true e9; subst e9
      have e10 := Nat.eq_of_beq_eq_true e10; subst e10
      have e11 := Nat.eq_of_beq_eq_true e11; subst e11
      have e12 := shBeq_eq e12; subst e12
      have e13 := Nat.eq_of_beq_eq_true e13; subst e13
      have e14 := Nat.eq_of_beq_eq_true e14; subst e14
      cases h
      exact snc_loc n l f M
    · cases h
  · cases h

theorem alc_1 (n : Nat) (l : Nat) (f : Nat → Nat → AV) (M : List Int → Option Int) : callB EA 2000 14 [AV.ptr 1 0 0] (alcH n l f M) (alcR n l f M) [(4, Src.nm 5)] [Hint.b false] =
 some ([(0 : Nat) = 0,
 n - 0 = n,
 lessC (some n) 0 = some n,
 (0 : Nat) = 0,
 n = n,
 (none : Option Nat) = none,
 false = false,
 l ≤ l,
 f = f ∧ plainSh eSh = true ∨ ∀ (i : Nat), i < l → rowOb eSh 0 (f i) (f i),
 ∀ (k : List Int), M k = M k,
 false = false,
 n ≤ n,
 (f = fun i j => f (0 + i) j) ∧ plainSh eSh = true ∨ ∀ (i : Nat), i < n → rowOb eSh 0 (fun j => f (0 + i) j) (f i),
 (Nat.blt 0 (capOr (some n) n) || Nat.beq 0 0) = true,
 (n.ble (capOr (some n) n) && decide (0 ≤ Int.ofNat n)) = true,
 (n.ble (capOr none n) && decide (0 ≤ Int.ofNat n)) = true,
 n.beq 0 = false,
 (n * 40).ble 70368744177664 = true,
 (0 + n).ble l = true,
 Nat.blt 0 n = true]) := by kernel_rfl
theorem alc_loc (n : Nat) (l : Nat) (f : Nat → Nat → AV) (M : List Int → Option Int) : LocOk Try.prog 14 [.ptr 1 0 0] (alcH n l f M) (alcR n l f M) := by
  refine loc_of_call EA_ok (fun hp => ?_)
  have hl : n ≤ l := hp _ (List.mem_cons_self ..)
  have hlim : n ≤ 1000000 := hp _ (List.mem_cons_of_mem _ (List.mem_cons_self ..))
  have hn : 0 < n := hp _ (List.mem_cons_of_mem _ (List.mem_cons_of_mem _ (List.mem_cons_self ..)))
  clear hp
  refine ⟨2000, _, _, _, alc_1 .., (ob_cons rfl (ob_cons ?_ (ob_cons ?_ (ob_cons rfl (ob_cons rfl (ob_cons rfl (ob_cons rfl (ob_cons (Nat.le_refl _) (ob_cons (.inl ⟨rfl, rfl⟩) (ob_cons (fun _ => rfl) (ob_cons rfl (ob_cons (Nat.le_refl _) (ob_cons ?_ (ob_cons ?_ (ob_cons ?_ (ob_cons ?_ (ob_cons ?_ (ob_cons ?_ (ob_cons ?_ (ob_cons ?_ ob_nil))))))))))))))))))))⟩
  ·
    first | rfl | exact hlp | with_reducible assumption | (simp [capOr]; done) | (simp [capOr]; omega) | exact beq0 hn | exact .inl ⟨by funext i j; rw [Nat.zero_add], rfl⟩
  ·
    first | rfl | exact hlp | with_reducible assumption | (simp [capOr]; done) | (simp [capOr]; omega) | exact beq0 hn | exact .inl ⟨by funext i j; rw [Nat.zero_add], rfl⟩
  ·
    first | exact .inl ⟨rfl, rfl⟩ | exact hlp | with_reducible assumption | (simp [capOr]; done) | (simp [capOr]; omega) | exact beq0 hn | exact .inl ⟨by funext i j; rw [Nat.zero_add], rfl⟩
  ·
    first | (apply Nat.ble_eq_true_of_le; omega) | (simp [Nat.blt_eq]; omega) | exact hlp | with_reducible assumption | (simp [capOr]; done) | (simp [capOr]; omega) | exact beq0 hn | exact .inl ⟨by funext i j; rw [Nat.zero_add], rfl⟩
  ·
    first | (apply Nat.ble_eq_true_of_le; omega) | (simp [Nat.blt_eq]; omega) | exact hlp | with_reducible assumption | (simp [capOr]; done) | (simp [capOr]; omega) | exact beq0 hn | exact .inl ⟨by funext i j; rw [Nat.zero_add], rfl⟩
  ·
    first | (apply Nat.ble_eq_true_of_le; omega) | (simp [Nat.blt_eq]; omega) | exact hlp | with_reducible assumption | (simp [capOr]; done) | (simp [capOr]; omega) | exact beq0 hn | exact .inl ⟨by funext i j; rw [Nat.zero_add], rfl⟩
  ·
    first | (apply Nat.ble_eq_true_of_le; omega) | (simp [Nat.blt_eq]; omega) | exact hlp | with_reducible assumption | (simp [capOr]; done) | (simp [capOr]; omega) | exact beq0 hn | exact .inl ⟨by funext i j; rw [Nat.zero_add], rfl⟩
  ·
    first | (apply Nat.ble_eq_true_of_le; omega) | (simp [Nat.blt_eq]; omega) | exact hlp | with_reducible assumption | (simp [capOr]; done) | (simp [capOr]; omega) | exact beq0 hn | exact .inl ⟨by funext i j; rw [Nat.zero_add], rfl⟩
  ·
    first | (apply Nat.ble_eq_true_of_le; omega) | (simp [Nat.blt_eq]; omega) | exact hlp | with_reducible assumption | (simp [capOr]; done) | (simp [capOr]; omega) | exact beq0 hn | exact .inl ⟨by funext i j; rw [Nat.zero_add], rfl⟩
  ·
    first | (apply Nat.ble_eq_true_of_le; omega) | (simp [Nat.blt_eq]; omega) | exact hlp | with_reducible assumption | (simp [capOr]; done) | (simp [capOr]; omega) | exact beq0 hn | exact .inl ⟨by funext i j; rw [Nat.zero_add], rfl⟩
noncomputable def alcSpec : LSpec := fun la lh => match la, lh with
  | [.ptr z1 z2 z3], [(z4, .cells z5 [.ss z6 z7 z8 n none, .map z9]), (z10, .arr z11 z12 false l f), (z13, .map z14 M)] =>
    match Nat.beq z1 1 && (Nat.beq z2 0 && (Nat.beq z3 0 && (Nat.beq z4 1 && (Nat.beq z5 2 && (Nat.beq z6 6 && (Nat.beq z7 2 && (Nat.beq z8 0 && (Nat.beq z9 3 && (Nat.beq z10 2 && (Nat.beq z11 6 && (shBeq z12 eSh && (Nat.beq z13 3 && (Nat.beq z14 119))))))))))))) with
    | true => some (alcR n l f M)
    | false => none
  | _, _ => none
theorem alcSpec_ok (la : List AV) (lh : List (Nat × AO)) (R : LR) (h : alcSpec la lh = some R) : LocOk Try.prog 14 la lh R := by
  unfold alcSpec at h
  split at h
  · rename_i z1 z2 z3 z4 z5 z6 z7 z8 n z9 z10 z11 z12 l f z13 z14 M
    split at h
    · rename_i hb
      simp only [Bool.and_eq_true] at hb
      obtain ⟨e1, e2, e3, e4, e5, e6, e7, e8, e9, e10, e11, e12, e13, e14⟩ := hb
      have e1 := Nat.eq_of_beq_eq_true e1; subst e1
      have e2 := Nat.eq_of_beq_eq_true e2; subst e2
      have e3 := Nat.eq_of_beq_eq_true e3; subst e3
      have e4 := Nat.eq_of_beq_eq_true e4; subst e4
      have e5 := Nat.eq_of_beq_eq_true e5; subst e5
      have e6 := Nat.eq_of_beq_eq_true e6; subst e6
      have e7 := Nat.eq_of_beq_eq_true e7; subst e7
      have e8 := Nat.eq_of_beq_eq_true e8; subst e8
      have e9 := Nat.eq_of_beq_eq_true e9; subst e9
      have e10 := Nat.eq_of_beq_eq_true e10; subst e10
      have e11 := Nat.eq_of_beq_eq_true e11; subst e11
      have e12 := shBeq_eq e12; subst e12
      have e13 := Nat.eq_of_beq_eq_true e13; subst e13
      have e14 := Nat.eq_of_beq_eq_true e14; subst e14
      cases h
      exact alc_loc n l f M
    · cases h
  · cases h

end Go.Proofs.Ytmlfmmnnbdlabaa
