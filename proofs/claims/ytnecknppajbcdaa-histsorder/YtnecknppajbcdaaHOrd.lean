/-
  HistsOrder: its first loop, and its innermost one.
-/
import Derived.Test.YtnecknppajbcdaaHOrdDef
set_option linter.unusedSimpArgs false
set_option linter.unusedVariables false
namespace Go.Proofs.Ytnecknppajbcdaa
open Go.Ev
theorem inn_1 (n ii kk : Nat) (C : Nat → Cl) : roundB EH3 2000 lcR2 ((iU ii n C).hp) [] (iT ii n C kk) [Hint.b true, Hint.node [(8, [Hint.b true]), (15, [Hint.b false])], Hint.b false] (iT ii n C (kk + 1)) =
 some (Ex.norm, [(0 : Nat) = 0,
 (0 : Nat) = 0,
 (0 : Nat) = 0,
 n = n,
 some n = some n,
 Int.ofNat ii = Int.ofNat ii,
 (0 : Nat) = 0,
 (0 : Nat) = 0,
 IntKind.i64.wrap (Int.ofNat kk + 1) = Int.ofNat (kk + 1),
 false = false,
 n ≤ n,
 cF C = cF C ∧ plainSh cSh = true ∨ ∀ (i : Nat), i < n → rowOb cSh 0 (cF C i) (cF C i),
 (C (0 + ii)).th = (C (0 + ii)).th,
 (C (0 + ii)).op = (C (0 + ii)).op,
 (C (0 + ii)).ky = (C (0 + ii)).ky,
 (C (0 + ii)).va = (C (0 + ii)).va,
 (C (0 + ii)).an = (C (0 + ii)).an,
 (C (0 + ii)).gt = (C (0 + ii)).gt,
 (C (0 + ii)).fr = (C (0 + ii)).fr,
 (C (0 + ii)).pt = (C (0 + ii)).pt,
 (C (0 + ii)).to = (C (0 + ii)).to,
 decide ((C (0 + kk)).9 > (C (0 + ii)).fr) = false,
 (0 + kk).blt n = true,
 (kk.blt n && decide (0 ≤ Int.ofNat kk)) = true,
 ((C (0 + kk)).9 == -1) = false,
 (0 + kk).blt n = true,
 (kk.blt n && decide (0 ≤ Int.ofNat kk)) = true,
 ((C (0 + kk)).1 == (C (0 + ii)).th) = true,
 (0 + kk).blt n = true,
 (kk.blt n && decide (0 ≤ Int.ofNat kk)) = true,
 decide (Int.ofNat kk < Int.ofNat ii) = true]) := by kernel_rfl
theorem inn_2 (n ii kk : Nat) (C : Nat → Cl) : roundB EH3 2000 lcR2 ((iU ii n C).hp) [] (iT ii n C kk) [Hint.b true, Hint.node [(8, [Hint.b false])]] (iT ii n C (kk + 1)) =
 some (Ex.norm, [(0 : Nat) = 0,
 (0 : Nat) = 0,
 (0 : Nat) = 0,
 n = n,
 some n = some n,
 Int.ofNat ii = Int.ofNat ii,
 (0 : Nat) = 0,
 (0 : Nat) = 0,
 IntKind.i64.wrap (Int.ofNat kk + 1) = Int.ofNat (kk + 1),
 false = false,
 n ≤ n,
 cF C = cF C ∧ plainSh cSh = true ∨ ∀ (i : Nat), i < n → rowOb cSh 0 (cF C i) (cF C i),
 (C (0 + ii)).th = (C (0 + ii)).th,
 (C (0 + ii)).op = (C (0 + ii)).op,
 (C (0 + ii)).ky = (C (0 + ii)).ky,
 (C (0 + ii)).va = (C (0 + ii)).va,
 (C (0 + ii)).an = (C (0 + ii)).an,
 (C (0 + ii)).gt = (C (0 + ii)).gt,
 (C (0 + ii)).fr = (C (0 + ii)).fr,
 (C (0 + ii)).pt = (C (0 + ii)).pt,
 (C (0 + ii)).to = (C (0 + ii)).to,
 ((C (0 + kk)).1 == (C (0 + ii)).th) = false,
 (0 + kk).blt n = true,
 (kk.blt n && decide (0 ≤ Int.ofNat kk)) = true,
 decide (Int.ofNat kk < Int.ofNat ii) = true]) := by kernel_rfl
theorem inn_3 (n ii kk : Nat) (C : Nat → Cl) : roundB EH3 2000 lcR2 ((iU ii n C).hp) [] (iT ii n C kk) [Hint.b false] (iS ii n C) =
 some (Ex.exit 5, [(0 : Nat) = 0,
 (0 : Nat) = 0,
 (0 : Nat) = 0,
 n = n,
 some n = some n,
 Int.ofNat ii = Int.ofNat ii,
 (0 : Nat) = 0,
 (0 : Nat) = 0,
 false = false,
 n ≤ n,
 cF C = cF C ∧ plainSh cSh = true ∨ ∀ (i : Nat), i < n → rowOb cSh 0 (cF C i) (cF C i),
 (C (0 + ii)).th = (C (0 + ii)).th,
 (C (0 + ii)).op = (C (0 + ii)).op,
 (C (0 + ii)).ky = (C (0 + ii)).ky,
 (C (0 + ii)).va = (C (0 + ii)).va,
 (C (0 + ii)).an = (C (0 + ii)).an,
 (C (0 + ii)).gt = (C (0 + ii)).gt,
 (C (0 + ii)).fr = (C (0 + ii)).fr,
 (C (0 + ii)).pt = (C (0 + ii)).pt,
 (C (0 + ii)).to = (C (0 + ii)).to,
 decide (Int.ofNat kk < Int.ofNat ii) = false]) := by kernel_rfl
theorem inni_1 (n ii : Nat) (C : Nat → Cl) : castSt ((iU ii n C).hp) [] (iU ii n C) (iT ii n C 0) =
 some ([(0 : Nat) = 0,
 (0 : Nat) = 0,
 (0 : Nat) = 0,
 n = n,
 some n = some n,
 Int.ofNat ii = Int.ofNat ii,
 (0 : Nat) = 0,
 (0 : Nat) = 0,
 (0 : Int) = 0,
 false = false,
 n ≤ n,
 cF C = cF C ∧ plainSh cSh = true ∨ ∀ (i : Nat), i < n → rowOb cSh 0 (cF C i) (cF C i),
 (C (0 + ii)).th = (C (0 + ii)).th,
 (C (0 + ii)).op = (C (0 + ii)).op,
 (C (0 + ii)).ky = (C (0 + ii)).ky,
 (C (0 + ii)).va = (C (0 + ii)).va,
 (C (0 + ii)).an = (C (0 + ii)).an,
 (C (0 + ii)).gt = (C (0 + ii)).gt,
 (C (0 + ii)).fr = (C (0 + ii)).fr,
 (C (0 + ii)).pt = (C (0 + ii)).pt,
 (C (0 + ii)).to = (C (0 + ii)).to]) := by kernel_rfl
theorem inn_lp (n ii : Nat) (C : Nat → Cl) (hn : n ≤ 1000000) (hi : ii < n) (hord : ∀ k, k < ii → (C (0 + k)).th = (C (0 + ii)).th → (C (0 + k)).to ≠ -1 ∧ (C (0 + k)).to ≤ (C (0 + ii)).fr) : LoopHolds Try.prog lcR2 (iU ii n C) (.exit 5) (iS ii n C) := by
  refine loop_rule EH3_ok (I := Nat) (iT ii n C) (fun k => ii - k) (fun k => k ≤ ii) ?_ (fun kk hk => ?_)
  ·
    refine ⟨0, [], _, Nat.zero_le _, inni_1 .., (ob_cons rfl (ob_cons rfl (ob_cons rfl (ob_cons rfl (ob_cons rfl (ob_cons rfl (ob_cons rfl (ob_cons rfl (ob_cons rfl (ob_cons rfl (ob_cons (Nat.le_refl _) (ob_cons (.inl ⟨rfl, rfl⟩) (ob_cons rfl (ob_cons rfl (ob_cons rfl (ob_cons rfl (ob_cons rfl (ob_cons rfl (ob_cons rfl (ob_cons rfl (ob_cons rfl ob_nil)))))))))))))))))))))⟩
  cases h1 : (decide (Int.ofNat kk < Int.ofNat ii)) with
  | true =>
    have g1 := of_decide_eq_true h1
    try simp only [Int.ofNat_eq_natCast, ge_iff_le, gt_iff_lt, Int.not_lt, Int.not_le] at g1
    cases h2 : ((C (0 + kk)).1 == (C (0 + ii)).th) with
    | true =>
      refine round_norm (s0 := iU ii n C) (kk + 1) (inn_1 ..) (ob_cons rfl (ob_cons rfl (ob_cons rfl (ob_cons rfl (ob_cons rfl (ob_cons rfl (ob_cons rfl (ob_cons rfl (ob_cons ?_ (ob_cons rfl (ob_cons (Nat.le_refl _) (ob_cons (.inl ⟨rfl, rfl⟩) (ob_cons rfl (ob_cons rfl (ob_cons rfl (ob_cons rfl (ob_cons rfl (ob_cons rfl (ob_cons rfl (ob_cons rfl (ob_cons rfl (ob_cons ?_ (ob_cons ?_ (ob_cons ?_ (ob_cons ?_ (ob_cons ?_ (ob_cons ?_ (ob_cons h2 (ob_cons ?_ (ob_cons ?_ (ob_cons h1 ob_nil))))))))))))))))))))))))))))))) (by show kk + 1 ≤ ii; omega) (by show ii - (kk + 1) < ii - kk; omega)
      ·
        first | exact wrap_nat64 _ (by simp; omega) (by simp; omega) | (have q := hord kk (by omega) (by simpa using (by assumption : ((C (0 + kk)).th == (C (0 + ii)).th) = true)); first | exact beq_eq_false_iff_ne.2 q.1 | exact decide_eq_false (by omega)) | (simp; omega)
      ·
        first | (apply Nat.ble_eq_true_of_le; omega) | (simp [Nat.blt_eq]; omega) | (have q := hord kk (by omega) (by simpa using (by assumption : ((C (0 + kk)).th == (C (0 + ii)).th) = true)); first | exact beq_eq_false_iff_ne.2 q.1 | exact decide_eq_false (by omega)) | (simp; omega)
      ·
        first | (apply Nat.ble_eq_true_of_le; omega) | (simp [Nat.blt_eq]; omega) | (have q := hord kk (by omega) (by simpa using (by assumption : ((C (0 + kk)).th == (C (0 + ii)).th) = true)); first | exact beq_eq_false_iff_ne.2 q.1 | exact decide_eq_false (by omega)) | (simp; omega)
      ·
        first | (apply Nat.ble_eq_true_of_le; omega) | (simp [Nat.blt_eq]; omega) | (have q := hord kk (by omega) (by simpa using (by assumption : ((C (0 + kk)).th == (C (0 + ii)).th) = true)); first | exact beq_eq_false_iff_ne.2 q.1 | exact decide_eq_false (by omega)) | (simp; omega)
      ·
        first | (apply Nat.ble_eq_true_of_le; omega) | (simp [Nat.blt_eq]; omega) | (have q := hord kk (by omega) (by simpa using (by assumption : ((C (0 + kk)).th == (C (0 + ii)).th) = true)); first | exact beq_eq_false_iff_ne.2 q.1 | exact decide_eq_false (by omega)) | (simp; omega)
      ·
        first | (apply Nat.ble_eq_true_of_le; omega) | (simp [Nat.blt_eq]; omega) | (have q := hord kk (by omega) (by simpa using (by assumption : ((C (0 + kk)).th == (C (0 + ii)).th) = true)); first | exact beq_eq_false_iff_ne.2 q.1 | exact decide_eq_false (by omega)) | (simp; omega)
      ·
        first | (apply Nat.ble_eq_true_of_le; omega) | (simp [Nat.blt_eq]; omega) | (have q := hord kk (by omega) (by simpa using (by assumption : ((C (0 + kk)).th == (C (0 + ii)).th) = true)); first | exact beq_eq_false_iff_ne.2 q.1 | exact decide_eq_false (by omega)) | (simp; omega)
      ·
        first | (apply Nat.ble_eq_true_of_le; omega) | (simp [Nat.blt_eq]; omega) | (have q := hord kk (by omega) (by simpa using (by assumption : ((C (0 + kk)).th == (C (0 + ii)).th) = true)); first | exact beq_eq_false_iff_ne.2 q.1 | exact decide_eq_false (by omega)) | (simp; omega)
      ·
        first | (apply Nat.ble_eq_true_of_le; omega) | (simp [Nat.blt_eq]; omega) | (have q := hord kk (by omega) (by simpa using (by assumption : ((C (0 + kk)).th == (C (0 + ii)).th) = true)); first | exact beq_eq_false_iff_ne.2 q.1 | exact decide_eq_false (by omega)) | (simp; omega)
    | false =>
      refine round_norm (s0 := iU ii n C) (kk + 1) (inn_2 ..) (ob_cons rfl (ob_cons rfl (ob_cons rfl (ob_cons rfl (ob_cons rfl (ob_cons rfl (ob_cons rfl (ob_cons rfl (ob_cons ?_ (ob_cons rfl (ob_cons (Nat.le_refl _) (ob_cons (.inl ⟨rfl, rfl⟩) (ob_cons rfl (ob_cons rfl (ob_cons rfl (ob_cons rfl (ob_cons rfl (ob_cons rfl (ob_cons rfl (ob_cons rfl (ob_cons rfl (ob_cons h2 (ob_cons ?_ (ob_cons ?_ (ob_cons h1 ob_nil))))))))))))))))))))))))) (by show kk + 1 ≤ ii; omega) (by show ii - (kk + 1) < ii - kk; omega)
      ·
        first | exact wrap_nat64 _ (by simp; omega) (by simp; omega) | (have q := hord kk (by omega) (by simpa using (by assumption : ((C (0 + kk)).th == (C (0 + ii)).th) = true)); first | exact beq_eq_false_iff_ne.2 q.1 | exact decide_eq_false (by omega)) | (simp; omega)
      ·
        first | (apply Nat.ble_eq_true_of_le; omega) | (simp [Nat.blt_eq]; omega) | (have q := hord kk (by omega) (by simpa using (by assumption : ((C (0 + kk)).th == (C (0 + ii)).th) = true)); first | exact beq_eq_false_iff_ne.2 q.1 | exact decide_eq_false (by omega)) | (simp; omega)
      ·
        first | (apply Nat.ble_eq_true_of_le; omega) | (simp [Nat.blt_eq]; omega) | (have q := hord kk (by omega) (by simpa using (by assumption : ((C (0 + kk)).th == (C (0 + ii)).th) = true)); first | exact beq_eq_false_iff_ne.2 q.1 | exact decide_eq_false (by omega)) | (simp; omega)
  | false =>
    have g1 := of_decide_eq_false h1
    try simp only [Int.ofNat_eq_natCast, ge_iff_le, gt_iff_lt, Int.not_lt, Int.not_le] at g1
    refine round_exit (s0 := iU ii n C) (inn_3 ..) (by simp) (ob_cons rfl (ob_cons rfl (ob_cons rfl (ob_cons rfl (ob_cons rfl (ob_cons rfl (ob_cons rfl (ob_cons rfl (ob_cons rfl (ob_cons (Nat.le_refl _) (ob_cons (.inl ⟨rfl, rfl⟩) (ob_cons rfl (ob_cons rfl (ob_cons rfl (ob_cons rfl (ob_cons rfl (ob_cons rfl (ob_cons rfl (ob_cons rfl (ob_cons rfl (ob_cons h1 ob_nil)))))))))))))))))))))
noncomputable def orF (m : Nat) (A : Nat → Ac) : HI → St
  | .a i => orA m A i
  | .b i S => orB m A i S
def orOk (m : Nat) (A : Nat → Ac) : HI → Prop
  | .a i => i ≤ m ∧ (hN A i).n = 0
  | .b i S => i ≤ m ∧ S = hN A i ∧ 0 < S.n ∧ S.n ≤ i
def orMu (m : Nat) : HI → Nat
  | .a i => m - i
  | .b i _ => m - i
theorem len_t {n : Nat} {e : Int} (hn : n ≤ 100000) (h : (e == 0) = true) : (Int.ofNat (onOk e (n + 1) n) != IntKind.i64.wrap (Int.ofNat n + 1)) = false := by
  rw [onOk_t (by simpa using h), i64w (by simp; omega) (by simp; omega)]; simp
theorem len_f {n : Nat} {e : Int} (h : (e == 0) = false) : (Int.ofNat (onOk e (n + 1) n) != Int.ofNat n) = false := by
  rw [onOk_f (by simpa using h)]; simp
theorem rb_1 (m ii : Nat) (A : Nat → Ac) (f : Nat → Nat → AV) (S : HS) : roundB EH3 2000 lcR0 ((orU m f).hp) [(3, Src.nm 7), (4, Src.nm 4)] (orB m A ii S) [Hint.b true, Hint.b true, Hint.b true, Hint.b false] (orB m A (ii + 1) (hStp S (A (0 + ii)))) =
 some (Ex.norm, [(0 : Nat) = 0,
 m = m,
 (none : Option Nat) = none,
 (0 : Nat) = 0,
 (0 : Nat) = 0,
 IntKind.i64.wrap (Int.ofNat ii + 1) = Int.ofNat (ii + 1),
 (0 : Nat) = 0,
 onOk (bgE S.last (undI S.U (A (0 + ii)).2) (A (0 + ii)).2 (A (0 + ii)).4 (A (0 + ii)).8) (S.n + 1) S.n = (hStp S (A (0 + ii))).n,
 (none : Option Nat) = none,
 onOk (bgE S.last (undI S.U (A (0 + ii)).2) (A (0 + ii)).2 (A (0 + ii)).4 (A (0 + ii)).8) (A (0 + ii)).8 S.last = (hStp S (A (0 + ii))).last,
 false = false,
 (hStp S (A (0 + ii))).n ≤ onOk (bgE S.last (undI S.U (A (0 + ii)).2) (A (0 + ii)).2 (A (0 + ii)).4 (A (0 + ii)).8) (S.n + 1) S.n,
 cF (hStp S (A (0 + ii))).C = cF (snocC S.n (fCl (cF S.C)) (mkCl (A (0 + ii)).2 (A (0 + ii)).4 (A (0 + ii)).6 (A (0 + ii)).7 (A (0 + ii)).8)) ∧ plainSh cSh = true ∨ ∀ (i : Nat), i < (hStp S (A (0 + ii))).n → rowOb cSh 0 (cF (snocC S.n (fCl (cF S.C)) (mkCl (A (0 + ii)).2 (A (0 + ii)).4 (A (0 + ii)).6 (A (0 + ii)).7 (A (0 + ii)).8)) i) (cF (hStp S (A (0 + ii))).C i),
 ∀ (k : List Int), onOk (bgE S.last (undI S.U (A (0 + ii)).2) (A (0 + ii)).2 (A (0 + ii)).4 (A (0 + ii)).8) (setKey S.U [(A (0 + ii)).2] (some (Int.ofNat S.n))) S.U k = (hStp S (A (0 + ii))).U k,
 true = true,
 m ≤ m,
 acF A = acF A ∧ plainSh aSh = true ∨ ∀ (i : Nat), i < m → rowOb aSh 0 (acF A i) (acF A i),
 (Int.ofNat (onOk (bgE S.last (undI S.U (A (0 + ii)).2) (A (0 + ii)).2 (A (0 + ii)).4 (A (0 + ii)).8) (S.n + 1) S.n) != IntKind.i64.wrap (Int.ofNat S.n + 1)) = false,
 onOk (bgE S.last (undI S.U (A (0 + ii)).2) (A (0 + ii)).2 (A (0 + ii)).4 (A (0 + ii)).8) (S.n + 1) S.n ≤ onOk (bgE S.last (undI S.U (A (0 + ii)).2) (A (0 + ii)).2 (A (0 + ii)).4 (A (0 + ii)).8) (S.n + 1) S.n,
 onOk (bgE S.last (undI S.U (A (0 + ii)).2) (A (0 + ii)).2 (A (0 + ii)).4 (A (0 + ii)).8) (S.n + 1) S.n ≤ 100000,
 0 < onOk (bgE S.last (undI S.U (A (0 + ii)).2) (A (0 + ii)).2 (A (0 + ii)).4 (A (0 + ii)).8) (S.n + 1) S.n,
 (bgE S.last (undI S.U (A (0 + ii)).2) (A (0 + ii)).2 (A (0 + ii)).4 (A (0 + ii)).8 == 0) = true,
 S.n ≤ S.n,
 S.n ≤ 100000,
 ((A (0 + ii)).1.tmod 3 == 0) = true,
 S.n ≤ S.n,
 S.n ≤ 100000,
 0 < S.n,
 (0 + ii).blt m = true,
 (ii.blt m && decide (0 ≤ Int.ofNat ii)) = true,
 decide (Int.ofNat ii < Int.ofNat m) = true]) := by kernel_rfl
theorem rb_2 (m ii : Nat) (A : Nat → Ac) (f : Nat → Nat → AV) (S : HS) : roundB EH3 2000 lcR0 ((orU m f).hp) [(3, Src.nm 7), (4, Src.nm 4)] (orB m A ii S) [Hint.b true, Hint.b true, Hint.b false, Hint.b false] (orB m A (ii + 1) (hStp S (A (0 + ii)))) =
 some (Ex.norm, [(0 : Nat) = 0,
 m = m,
 (none : Option Nat) = none,
 (0 : Nat) = 0,
 (0 : Nat) = 0,
 IntKind.i64.wrap (Int.ofNat ii + 1) = Int.ofNat (ii + 1),
 (0 : Nat) = 0,
 onOk (bgE S.last (undI S.U (A (0 + ii)).2) (A (0 + ii)).2 (A (0 + ii)).4 (A (0 + ii)).8) (S.n + 1) S.n = (hStp S (A (0 + ii))).n,
 (none : Option Nat) = none,
 onOk (bgE S.last (undI S.U (A (0 + ii)).2) (A (0 + ii)).2 (A (0 + ii)).4 (A (0 + ii)).8) (A (0 + ii)).8 S.last = (hStp S (A (0 + ii))).last,
 false = false,
 (hStp S (A (0 + ii))).n ≤ onOk (bgE S.last (undI S.U (A (0 + ii)).2) (A (0 + ii)).2 (A (0 + ii)).4 (A (0 + ii)).8) (S.n + 1) S.n,
 cF (hStp S (A (0 + ii))).C = cF (snocC S.n (fCl (cF S.C)) (mkCl (A (0 + ii)).2 (A (0 + ii)).4 (A (0 + ii)).6 (A (0 + ii)).7 (A (0 + ii)).8)) ∧ plainSh cSh = true ∨ ∀ (i : Nat), i < (hStp S (A (0 + ii))).n → rowOb cSh 0 (cF (snocC S.n (fCl (cF S.C)) (mkCl (A (0 + ii)).2 (A (0 + ii)).4 (A (0 + ii)).6 (A (0 + ii)).7 (A (0 + ii)).8)) i) (cF (hStp S (A (0 + ii))).C i),
 ∀ (k : List Int), onOk (bgE S.last (undI S.U (A (0 + ii)).2) (A (0 + ii)).2 (A (0 + ii)).4 (A (0 + ii)).8) (setKey S.U [(A (0 + ii)).2] (some (Int.ofNat S.n))) S.U k = (hStp S (A (0 + ii))).U k,
 true = true,
 m ≤ m,
 acF A = acF A ∧ plainSh aSh = true ∨ ∀ (i : Nat), i < m → rowOb aSh 0 (acF A i) (acF A i),
 (Int.ofNat (onOk (bgE S.last (undI S.U (A (0 + ii)).2) (A (0 + ii)).2 (A (0 + ii)).4 (A (0 + ii)).8) (S.n + 1) S.n) != Int.ofNat S.n) = false,
 onOk (bgE S.last (undI S.U (A (0 + ii)).2) (A (0 + ii)).2 (A (0 + ii)).4 (A (0 + ii)).8) (S.n + 1) S.n ≤ onOk (bgE S.last (undI S.U (A (0 + ii)).2) (A (0 + ii)).2 (A (0 + ii)).4 (A (0 + ii)).8) (S.n + 1) S.n,
 onOk (bgE S.last (undI S.U (A (0 + ii)).2) (A (0 + ii)).2 (A (0 + ii)).4 (A (0 + ii)).8) (S.n + 1) S.n ≤ 100000,
 0 < onOk (bgE S.last (undI S.U (A (0 + ii)).2) (A (0 + ii)).2 (A (0 + ii)).4 (A (0 + ii)).8) (S.n + 1) S.n,
 (bgE S.last (undI S.U (A (0 + ii)).2) (A (0 + ii)).2 (A (0 + ii)).4 (A (0 + ii)).8 == 0) = false,
 S.n ≤ S.n,
 S.n ≤ 100000,
 ((A (0 + ii)).1.tmod 3 == 0) = true,
 S.n ≤ S.n,
 S.n ≤ 100000,
 0 < S.n,
 (0 + ii).blt m = true,
 (ii.blt m && decide (0 ≤ Int.ofNat ii)) = true,
 decide (Int.ofNat ii < Int.ofNat m) = true]) := by kernel_rfl
theorem rb_3 (m ii : Nat) (A : Nat → Ac) (f : Nat → Nat → AV) (S : HS) : roundB EH3 2000 lcR0 ((orU m f).hp) [(3, Src.nm 3), (4, Src.nm 4)] (orB m A ii S) [Hint.b true, Hint.b false, Hint.b true, Hint.b false] (orB m A (ii + 1) (hStp S (A (0 + ii)))) =
 some (Ex.norm, [(0 : Nat) = 0,
 m = m,
 (none : Option Nat) = none,
 (0 : Nat) = 0,
 (0 : Nat) = 0,
 IntKind.i64.wrap (Int.ofNat ii + 1) = Int.ofNat (ii + 1),
 (0 : Nat) = 0,
 S.n = (hStp S (A (0 + ii))).n,
 (none : Option Nat) = none,
 onOk (ptE S.n (fCl (cF S.C)) (A (0 + ii)).3 (A (0 + ii)).5 (A (0 + ii)).8) (if (A (0 + ii)).8 > S.last then (A (0 + ii)).8 else S.last) S.last = (hStp S (A (0 + ii))).last,
 false = false,
 (hStp S (A (0 + ii))).n ≤ S.n,
 cF (hStp S (A (0 + ii))).C = cF (ptC (ptE S.n (fCl (cF S.C)) (A (0 + ii)).3 (A (0 + ii)).5 (A (0 + ii)).8) (fCl (cF S.C)) (A (0 + ii)).3 (A (0 + ii)).5 (A (0 + ii)).7 (A (0 + ii)).8) ∧ plainSh cSh = true ∨ ∀ (i : Nat), i < (hStp S (A (0 + ii))).n → rowOb cSh 0 (cF (ptC (ptE S.n (fCl (cF S.C)) (A (0 + ii)).3 (A (0 + ii)).5 (A (0 + ii)).8) (fCl (cF S.C)) (A (0 + ii)).3 (A (0 + ii)).5 (A (0 + ii)).7 (A (0 + ii)).8) i) (cF (hStp S (A (0 + ii))).C i),
 ∀ (k : List Int), S.U k = (hStp S (A (0 + ii))).U k,
 true = true,
 m ≤ m,
 acF A = acF A ∧ plainSh aSh = true ∨ ∀ (i : Nat), i < m → rowOb aSh 0 (acF A i) (acF A i),
 (Int.ofNat S.n != Int.ofNat S.n) = false,
 S.n ≤ S.n,
 S.n ≤ 100000,
 0 < S.n,
 S.n ≤ S.n,
 S.n ≤ 100000,
 ((A (0 + ii)).1.tmod 3 == 1) = true,
 ((A (0 + ii)).1.tmod 3 == 0) = false,
 S.n ≤ S.n,
 S.n ≤ 100000,
 0 < S.n,
 (0 + ii).blt m = true,
 (ii.blt m && decide (0 ≤ Int.ofNat ii)) = true,
 decide (Int.ofNat ii < Int.ofNat m) = true]) := by kernel_rfl
theorem rb_4 (m ii : Nat) (A : Nat → Ac) (f : Nat → Nat → AV) (S : HS) : roundB EH3 2000 lcR0 ((orU m f).hp) [(3, Src.nm 3), (4, Src.nm 4)] (orB m A ii S) [Hint.b true, Hint.b false, Hint.b false, Hint.b false] (orB m A (ii + 1) (hStp S (A (0 + ii)))) =
 some (Ex.norm, [(0 : Nat) = 0,
 m = m,
 (none : Option Nat) = none,
 (0 : Nat) = 0,
 (0 : Nat) = 0,
 IntKind.i64.wrap (Int.ofNat ii + 1) = Int.ofNat (ii + 1),
 (0 : Nat) = 0,
 S.n = (hStp S (A (0 + ii))).n,
 (none : Option Nat) = none,
 onOk (enE S.n (fCl (cF S.C)) S.last (A (0 + ii)).3 (A (0 + ii)).8) (A (0 + ii)).8 S.last = (hStp S (A (0 + ii))).last,
 false = false,
 (hStp S (A (0 + ii))).n ≤ S.n,
 cF (hStp S (A (0 + ii))).C = cF (enC (enE S.n (fCl (cF S.C)) S.last (A (0 + ii)).3 (A (0 + ii)).8) (fCl (cF S.C)) (A (0 + ii)).3 (A (0 + ii)).8) ∧ plainSh cSh = true ∨ ∀ (i : Nat), i < (hStp S (A (0 + ii))).n → rowOb cSh 0 (cF (enC (enE S.n (fCl (cF S.C)) S.last (A (0 + ii)).3 (A (0 + ii)).8) (fCl (cF S.C)) (A (0 + ii)).3 (A (0 + ii)).8) i) (cF (hStp S (A (0 + ii))).C i),
 ∀ (k : List Int), onOk (enE S.n (fCl (cF S.C)) S.last (A (0 + ii)).3 (A (0 + ii)).8) (setKey S.U [(fCl (cF S.C) (A (0 + ii)).3.toNat).th] none) S.U k = (hStp S (A (0 + ii))).U k,
 true = true,
 m ≤ m,
 acF A = acF A ∧ plainSh aSh = true ∨ ∀ (i : Nat), i < m → rowOb aSh 0 (acF A i) (acF A i),
 (Int.ofNat S.n != Int.ofNat S.n) = false,
 S.n ≤ S.n,
 S.n ≤ 100000,
 0 < S.n,
 S.n ≤ S.n,
 S.n ≤ 100000,
 ((A (0 + ii)).1.tmod 3 == 1) = false,
 ((A (0 + ii)).1.tmod 3 == 0) = false,
 S.n ≤ S.n,
 S.n ≤ 100000,
 0 < S.n,
 (0 + ii).blt m = true,
 (ii.blt m && decide (0 ≤ Int.ofNat ii)) = true,
 decide (Int.ofNat ii < Int.ofNat m) = true]) := by kernel_rfl
theorem rb_5 (m ii : Nat) (A : Nat → Ac) (f : Nat → Nat → AV) (S : HS) : roundB EH3 2000 lcR0 ((orU m f).hp) [(3, Src.nm 3), (4, Src.nm 4)] (orB m A ii S) [Hint.b false] (orXB m A S) =
 some (Ex.exit 0, [(0 : Nat) = 0,
 m = m,
 (none : Option Nat) = none,
 (0 : Nat) = 0,
 (0 : Nat) = 0,
 (0 : Nat) = 0,
 S.n = S.n,
 (none : Option Nat) = none,
 S.last = S.last,
 false = false,
 S.n ≤ S.n,
 cF S.C = cF S.C ∧ plainSh cSh = true ∨ ∀ (i : Nat), i < S.n → rowOb cSh 0 (cF S.C i) (cF S.C i),
 ∀ (k : List Int), S.U k = S.U k,
 true = true,
 m ≤ m,
 acF A = acF A ∧ plainSh aSh = true ∨ ∀ (i : Nat), i < m → rowOb aSh 0 (acF A i) (acF A i),
 decide (Int.ofNat ii < Int.ofNat m) = false]) := by kernel_rfl
theorem ra_1 (m ii : Nat) (A : Nat → Ac) (f : Nat → Nat → AV) : roundB EH3 2000 lcR0 ((orU m f).hp) [(3, Src.nm 6), (4, Src.nm 7)] (orA m A ii) [Hint.b true, Hint.b true, Hint.b true, Hint.b true, Hint.b false] (orB m A (ii + 1) (hOne (A (0 + ii)))) =
 some (Ex.norm, [(0 : Nat) = 0,
 m = m,
 (none : Option Nat) = none,
 (0 : Nat) = 0,
 (0 : Nat) = 0,
 IntKind.i64.wrap (Int.ofNat ii + 1) = Int.ofNat (ii + 1),
 (0 : Nat) = 0,
 (1 : Nat) = 1,
 (none : Option Nat) = none,
 (A (0 + ii)).8 = (hOne (A (0 + ii))).last,
 false = false,
 1 ≤ 1,
 (cF (hOne (A (0 + ii))).C = cF fun x => mkCl (A (0 + ii)).2 (A (0 + ii)).4 (A (0 + ii)).6 (A (0 + ii)).7 (A (0 + ii)).8) ∧ plainSh cSh = true ∨ ∀ (i : Nat), i < 1 → rowOb cSh 0 (cF (fun x => mkCl (A (0 + ii)).2 (A (0 + ii)).4 (A (0 + ii)).6 (A (0 + ii)).7 (A (0 + ii)).8) i) (cF (hOne (A (0 + ii))).C i),
 ∀ (k : List Int), setKey (fun x => none) [(A (0 + ii)).2] (some 0) k = (hOne (A (0 + ii))).U k,
 true = true,
 m ≤ m,
 acF A = acF A ∧ plainSh aSh = true ∨ ∀ (i : Nat), i < m → rowOb aSh 0 (acF A i) (acF A i),
 (1 != 1) = false,
 1 ≤ 1,
 1 ≤ 100000,
 0 < 1,
 (0 == 0) = true,
 (bgE 0 (-1) (A (0 + ii)).2 (A (0 + ii)).4 (A (0 + ii)).8 == 0) = true,
 ((A (0 + ii)).1.tmod 3 == 0) = true,
 (0 + ii).blt m = true,
 (ii.blt m && decide (0 ≤ Int.ofNat ii)) = true,
 decide (Int.ofNat ii < Int.ofNat m) = true]) := by kernel_rfl
theorem ra_2 (m ii : Nat) (A : Nat → Ac) (f : Nat → Nat → AV) : roundB EH3 2000 lcR0 ((orU m f).hp) [] (orA m A ii) [Hint.b true, Hint.b true, Hint.b false, Hint.b false] (orA m A (ii + 1)) =
 some (Ex.norm, [(0 : Nat) = 0,
 m = m,
 (none : Option Nat) = none,
 (0 : Nat) = 0,
 (0 : Nat) = 0,
 IntKind.i64.wrap (Int.ofNat ii + 1) = Int.ofNat (ii + 1),
 (0 : Int) = 0,
 true = true,
 m ≤ m,
 acF A = acF A ∧ plainSh aSh = true ∨ ∀ (i : Nat), i < m → rowOb aSh 0 (acF A i) (acF A i),
 (bgE 0 (-1) (A (0 + ii)).2 (A (0 + ii)).4 (A (0 + ii)).8 == 0) = false,
 (bgE 0 (-1) (A (0 + ii)).2 (A (0 + ii)).4 (A (0 + ii)).8 == 0) = false,
 ((A (0 + ii)).1.tmod 3 == 0) = true,
 (0 + ii).blt m = true,
 (ii.blt m && decide (0 ≤ Int.ofNat ii)) = true,
 decide (Int.ofNat ii < Int.ofNat m) = true]) := by kernel_rfl
theorem ra_3 (m ii : Nat) (A : Nat → Ac) (f : Nat → Nat → AV) : roundB EH3 2000 lcR0 ((orU m f).hp) [] (orA m A ii) [Hint.b true, Hint.b false, Hint.b true] (orA m A (ii + 1)) =
 some (Ex.norm, [(0 : Nat) = 0,
 m = m,
 (none : Option Nat) = none,
 (0 : Nat) = 0,
 (0 : Nat) = 0,
 IntKind.i64.wrap (Int.ofNat ii + 1) = Int.ofNat (ii + 1),
 (0 : Int) = 0,
 true = true,
 m ≤ m,
 acF A = acF A ∧ plainSh aSh = true ∨ ∀ (i : Nat), i < m → rowOb aSh 0 (acF A i) (acF A i),
 ((A (0 + ii)).1.tmod 3 == 1) = true,
 ((A (0 + ii)).1.tmod 3 == 0) = false,
 (0 + ii).blt m = true,
 (ii.blt m && decide (0 ≤ Int.ofNat ii)) = true,
 decide (Int.ofNat ii < Int.ofNat m) = true]) := by kernel_rfl
theorem ra_4 (m ii : Nat) (A : Nat → Ac) (f : Nat → Nat → AV) : roundB EH3 2000 lcR0 ((orU m f).hp) [] (orA m A ii) [Hint.b true, Hint.b false, Hint.b false] (orA m A (ii + 1)) =
 some (Ex.norm, [(0 : Nat) = 0,
 m = m,
 (none : Option Nat) = none,
 (0 : Nat) = 0,
 (0 : Nat) = 0,
 IntKind.i64.wrap (Int.ofNat ii + 1) = Int.ofNat (ii + 1),
 (0 : Int) = 0,
 true = true,
 m ≤ m,
 acF A = acF A ∧ plainSh aSh = true ∨ ∀ (i : Nat), i < m → rowOb aSh 0 (acF A i) (acF A i),
 ((A (0 + ii)).1.tmod 3 == 1) = false,
 ((A (0 + ii)).1.tmod 3 == 0) = false,
 (0 + ii).blt m = true,
 (ii.blt m && decide (0 ≤ Int.ofNat ii)) = true,
 decide (Int.ofNat ii < Int.ofNat m) = true]) := by kernel_rfl
theorem ra_5 (m ii : Nat) (A : Nat → Ac) (f : Nat → Nat → AV) : roundB EH3 2000 lcR0 ((orU m f).hp) [] (orA m A ii) [Hint.b false] (orXA m A) =
 some (Ex.exit 0, [(0 : Nat) = 0,
 m = m,
 (none : Option Nat) = none,
 (0 : Nat) = 0,
 (0 : Nat) = 0,
 true = true,
 m ≤ m,
 acF A = acF A ∧ plainSh aSh = true ∨ ∀ (i : Nat), i < m → rowOb aSh 0 (acF A i) (acF A i),
 decide (Int.ofNat ii < Int.ofNat m) = false]) := by kernel_rfl
set_option maxHeartbeats 1600000 in
theorem rb_round (m ii : Nat) (A : Nat → Ac) (f : Nat → Nat → AV) (S : HS) (s1 : St) (hm : m ≤ 200) (hi : ii ≤ m) (hS : S = hN A ii) (hn : 0 < S.n) (hni : S.n ≤ ii) (hs : S = hN A m → s1 = orXB m A S) : RoundOk EH3 lcR0 (orU m f) (.exit 0) s1 (orF m A) (orMu m) (orOk m A) (.b ii S) := by
  have hbn := hBeg_n S (A (0 + ii))
  have hsn := hStp_n S (A (0 + ii))
  have hn2 : S.n ≤ 100000 := by omega
  cases h1 : (decide (Int.ofNat ii < Int.ofNat m)) with
  | true =>
    have g1 := of_decide_eq_true h1
    try simp only [Int.ofNat_eq_natCast, ge_iff_le, gt_iff_lt, Int.not_lt, Int.not_le] at g1
    cases h2 : ((A (0 + ii)).1.tmod 3 == 0) with
    | true =>
      cases h3 : (bgE S.last (undI S.U (A (0 + ii)).2) (A (0 + ii)).2 (A (0 + ii)).4 (A (0 + ii)).8 == 0) with
      | true =>
        first | (have e := stp0 (S := S) (x := A (0 + ii)) (by assumption)) | (have e := stp1 (S := S) (x := A (0 + ii)) (by assumption) (by assumption)) | (have e := stp2 (S := S) (x := A (0 + ii)) (by assumption) (by assumption))
        refine round_norm (s0 := orU m f) (T := orF m A) (i := .b ii S) (.b (ii + 1) (hStp S (A (0 + ii)))) (rb_1 m ii A f S) (ob_cons rfl (ob_cons rfl (ob_cons rfl (ob_cons rfl (ob_cons rfl (ob_cons ?_ (ob_cons rfl (ob_cons ?_ (ob_cons rfl (ob_cons ?_ (ob_cons rfl (ob_cons ?_ (ob_cons ?_ (ob_cons ?_ (ob_cons rfl (ob_cons (Nat.le_refl _) (ob_cons (.inl ⟨rfl, rfl⟩) (ob_cons ?_ (ob_cons (Nat.le_refl _) (ob_cons ?_ (ob_cons ?_ (ob_cons h3 (ob_cons (Nat.le_refl _) (ob_cons ?_ (ob_cons h2 (ob_cons (Nat.le_refl _) (ob_cons ?_ (ob_cons ?_ (ob_cons ?_ (ob_cons ?_ (ob_cons h1 ob_nil))))))))))))))))))))))))))))))) ⟨by omega, by (rw [hS]; rfl), by omega, by omega⟩ (by show m - (ii + 1) < m - ii; omega)
        ·
          first | exact wrap_nat64 _ (by simp; omega) (by simp; omega) | exact Nat.le_refl _ | exact hn | omega | (simp only [e, fcc]; done) | ((try simp only [e, fcc]); first | rfl | exact Nat.le_refl _ | exact .inl ⟨rfl, rfl⟩ | exact fun _ => rfl | (show (hBeg S (A (0 + ii))).n ≤ _; omega) | (show 0 < (hBeg S (A (0 + ii))).n; omega) | exact len_t hn2 (by assumption) | exact len_f (by assumption) | (simp; done) | (simp; omega))
        ·
          first | rfl | exact Nat.le_refl _ | exact hn | omega | (simp only [e, fcc]; done) | ((try simp only [e, fcc]); first | rfl | exact Nat.le_refl _ | exact .inl ⟨rfl, rfl⟩ | exact fun _ => rfl | (show (hBeg S (A (0 + ii))).n ≤ _; omega) | (show 0 < (hBeg S (A (0 + ii))).n; omega) | exact len_t hn2 (by assumption) | exact len_f (by assumption) | (simp; done) | (simp; omega))
        ·
          first | rfl | exact Nat.le_refl _ | exact hn | omega | (simp only [e, fcc]; done) | ((try simp only [e, fcc]); first | rfl | exact Nat.le_refl _ | exact .inl ⟨rfl, rfl⟩ | exact fun _ => rfl | (show (hBeg S (A (0 + ii))).n ≤ _; omega) | (show 0 < (hBeg S (A (0 + ii))).n; omega) | exact len_t hn2 (by assumption) | exact len_f (by assumption) | (simp; done) | (simp; omega))
        ·
          first | exact Nat.le_refl _ | omega | exact Nat.le_refl _ | exact hn | omega | (simp only [e, fcc]; done) | ((try simp only [e, fcc]); first | rfl | exact Nat.le_refl _ | exact .inl ⟨rfl, rfl⟩ | exact fun _ => rfl | (show (hBeg S (A (0 + ii))).n ≤ _; omega) | (show 0 < (hBeg S (A (0 + ii))).n; omega) | exact len_t hn2 (by assumption) | exact len_f (by assumption) | (simp; done) | (simp; omega))
        ·
          first | exact .inl ⟨rfl, rfl⟩ | exact Nat.le_refl _ | exact hn | omega | (simp only [e, fcc]; done) | ((try simp only [e, fcc]); first | rfl | exact Nat.le_refl _ | exact .inl ⟨rfl, rfl⟩ | exact fun _ => rfl | (show (hBeg S (A (0 + ii))).n ≤ _; omega) | (show 0 < (hBeg S (A (0 + ii))).n; omega) | exact len_t hn2 (by assumption) | exact len_f (by assumption) | (simp; done) | (simp; omega))
        ·
          first | exact fun _ => rfl | exact Nat.le_refl _ | exact hn | omega | (simp only [e, fcc]; done) | ((try simp only [e, fcc]); first | rfl | exact Nat.le_refl _ | exact .inl ⟨rfl, rfl⟩ | exact fun _ => rfl | (show (hBeg S (A (0 + ii))).n ≤ _; omega) | (show 0 < (hBeg S (A (0 + ii))).n; omega) | exact len_t hn2 (by assumption) | exact len_f (by assumption) | (simp; done) | (simp; omega))
        ·
          first | (apply Nat.ble_eq_true_of_le; omega) | (simp [Nat.blt_eq]; omega) | exact Nat.le_refl _ | exact hn | omega | (simp only [e, fcc]; done) | ((try simp only [e, fcc]); first | rfl | exact Nat.le_refl _ | exact .inl ⟨rfl, rfl⟩ | exact fun _ => rfl | (show (hBeg S (A (0 + ii))).n ≤ _; omega) | (show 0 < (hBeg S (A (0 + ii))).n; omega) | exact len_t hn2 (by assumption) | exact len_f (by assumption) | (simp; done) | (simp; omega))
        ·
          first | exact Nat.le_refl _ | omega | exact Nat.le_refl _ | exact hn | omega | (simp only [e, fcc]; done) | ((try simp only [e, fcc]); first | rfl | exact Nat.le_refl _ | exact .inl ⟨rfl, rfl⟩ | exact fun _ => rfl | (show (hBeg S (A (0 + ii))).n ≤ _; omega) | (show 0 < (hBeg S (A (0 + ii))).n; omega) | exact len_t hn2 (by assumption) | exact len_f (by assumption) | (simp; done) | (simp; omega))
        ·
          first | omega | exact Nat.le_refl _ | exact hn | omega | (simp only [e, fcc]; done) | ((try simp only [e, fcc]); first | rfl | exact Nat.le_refl _ | exact .inl ⟨rfl, rfl⟩ | exact fun _ => rfl | (show (hBeg S (A (0 + ii))).n ≤ _; omega) | (show 0 < (hBeg S (A (0 + ii))).n; omega) | exact len_t hn2 (by assumption) | exact len_f (by assumption) | (simp; done) | (simp; omega))
        ·
          first | exact Nat.le_refl _ | omega | exact Nat.le_refl _ | exact hn | omega | (simp only [e, fcc]; done) | ((try simp only [e, fcc]); first | rfl | exact Nat.le_refl _ | exact .inl ⟨rfl, rfl⟩ | exact fun _ => rfl | (show (hBeg S (A (0 + ii))).n ≤ _; omega) | (show 0 < (hBeg S (A (0 + ii))).n; omega) | exact len_t hn2 (by assumption) | exact len_f (by assumption) | (simp; done) | (simp; omega))
        ·
          first | exact Nat.le_refl _ | omega | exact Nat.le_refl _ | exact hn | omega | (simp only [e, fcc]; done) | ((try simp only [e, fcc]); first | rfl | exact Nat.le_refl _ | exact .inl ⟨rfl, rfl⟩ | exact fun _ => rfl | (show (hBeg S (A (0 + ii))).n ≤ _; omega) | (show 0 < (hBeg S (A (0 + ii))).n; omega) | exact len_t hn2 (by assumption) | exact len_f (by assumption) | (simp; done) | (simp; omega))
        ·
          first | omega | exact Nat.le_refl _ | exact hn | omega | (simp only [e, fcc]; done) | ((try simp only [e, fcc]); first | rfl | exact Nat.le_refl _ | exact .inl ⟨rfl, rfl⟩ | exact fun _ => rfl | (show (hBeg S (A (0 + ii))).n ≤ _; omega) | (show 0 < (hBeg S (A (0 + ii))).n; omega) | exact len_t hn2 (by assumption) | exact len_f (by assumption) | (simp; done) | (simp; omega))
        ·
          first | (apply Nat.ble_eq_true_of_le; omega) | (simp [Nat.blt_eq]; omega) | exact Nat.le_refl _ | exact hn | omega | (simp only [e, fcc]; done) | ((try simp only [e, fcc]); first | rfl | exact Nat.le_refl _ | exact .inl ⟨rfl, rfl⟩ | exact fun _ => rfl | (show (hBeg S (A (0 + ii))).n ≤ _; omega) | (show 0 < (hBeg S (A (0 + ii))).n; omega) | exact len_t hn2 (by assumption) | exact len_f (by assumption) | (simp; done) | (simp; omega))
        ·
          first | (apply Nat.ble_eq_true_of_le; omega) | (simp [Nat.blt_eq]; omega) | exact Nat.le_refl _ | exact hn | omega | (simp only [e, fcc]; done) | ((try simp only [e, fcc]); first | rfl | exact Nat.le_refl _ | exact .inl ⟨rfl, rfl⟩ | exact fun _ => rfl | (show (hBeg S (A (0 + ii))).n ≤ _; omega) | (show 0 < (hBeg S (A (0 + ii))).n; omega) | exact len_t hn2 (by assumption) | exact len_f (by assumption) | (simp; done) | (simp; omega))
      | false =>
        first | (have e := stp0 (S := S) (x := A (0 + ii)) (by assumption)) | (have e := stp1 (S := S) (x := A (0 + ii)) (by assumption) (by assumption)) | (have e := stp2 (S := S) (x := A (0 + ii)) (by assumption) (by assumption))
        refine round_norm (s0 := orU m f) (T := orF m A) (i := .b ii S) (.b (ii + 1) (hStp S (A (0 + ii)))) (rb_2 m ii A f S) (ob_cons rfl (ob_cons rfl (ob_cons rfl (ob_cons rfl (ob_cons rfl (ob_cons ?_ (ob_cons rfl (ob_cons ?_ (ob_cons rfl (ob_cons ?_ (ob_cons rfl (ob_cons ?_ (ob_cons ?_ (ob_cons ?_ (ob_cons rfl (ob_cons (Nat.le_refl _) (ob_cons (.inl ⟨rfl, rfl⟩) (ob_cons ?_ (ob_cons (Nat.le_refl _) (ob_cons ?_ (ob_cons ?_ (ob_cons h3 (ob_cons (Nat.le_refl _) (ob_cons ?_ (ob_cons h2 (ob_cons (Nat.le_refl _) (ob_cons ?_ (ob_cons ?_ (ob_cons ?_ (ob_cons ?_ (ob_cons h1 ob_nil))))))))))))))))))))))))))))))) ⟨by omega, by (rw [hS]; rfl), by omega, by omega⟩ (by show m - (ii + 1) < m - ii; omega)
        ·
          first | exact wrap_nat64 _ (by simp; omega) (by simp; omega) | exact Nat.le_refl _ | exact hn | omega | (simp only [e, fcc]; done) | ((try simp only [e, fcc]); first | rfl | exact Nat.le_refl _ | exact .inl ⟨rfl, rfl⟩ | exact fun _ => rfl | (show (hBeg S (A (0 + ii))).n ≤ _; omega) | (show 0 < (hBeg S (A (0 + ii))).n; omega) | exact len_t hn2 (by assumption) | exact len_f (by assumption) | (simp; done) | (simp; omega))
        ·
          first | rfl | exact Nat.le_refl _ | exact hn | omega | (simp only [e, fcc]; done) | ((try simp only [e, fcc]); first | rfl | exact Nat.le_refl _ | exact .inl ⟨rfl, rfl⟩ | exact fun _ => rfl | (show (hBeg S (A (0 + ii))).n ≤ _; omega) | (show 0 < (hBeg S (A (0 + ii))).n; omega) | exact len_t hn2 (by assumption) | exact len_f (by assumption) | (simp; done) | (simp; omega))
        ·
          first | rfl | exact Nat.le_refl _ | exact hn | omega | (simp only [e, fcc]; done) | ((try simp only [e, fcc]); first | rfl | exact Nat.le_refl _ | exact .inl ⟨rfl, rfl⟩ | exact fun _ => rfl | (show (hBeg S (A (0 + ii))).n ≤ _; omega) | (show 0 < (hBeg S (A (0 + ii))).n; omega) | exact len_t hn2 (by assumption) | exact len_f (by assumption) | (simp; done) | (simp; omega))
        ·
          first | exact Nat.le_refl _ | omega | exact Nat.le_refl _ | exact hn | omega | (simp only [e, fcc]; done) | ((try simp only [e, fcc]); first | rfl | exact Nat.le_refl _ | exact .inl ⟨rfl, rfl⟩ | exact fun _ => rfl | (show (hBeg S (A (0 + ii))).n ≤ _; omega) | (show 0 < (hBeg S (A (0 + ii))).n; omega) | exact len_t hn2 (by assumption) | exact len_f (by assumption) | (simp; done) | (simp; omega))
        ·
          first | exact .inl ⟨rfl, rfl⟩ | exact Nat.le_refl _ | exact hn | omega | (simp only [e, fcc]; done) | ((try simp only [e, fcc]); first | rfl | exact Nat.le_refl _ | exact .inl ⟨rfl, rfl⟩ | exact fun _ => rfl | (show (hBeg S (A (0 + ii))).n ≤ _; omega) | (show 0 < (hBeg S (A (0 + ii))).n; omega) | exact len_t hn2 (by assumption) | exact len_f (by assumption) | (simp; done) | (simp; omega))
        ·
          first | exact fun _ => rfl | exact Nat.le_refl _ | exact hn | omega | (simp only [e, fcc]; done) | ((try simp only [e, fcc]); first | rfl | exact Nat.le_refl _ | exact .inl ⟨rfl, rfl⟩ | exact fun _ => rfl | (show (hBeg S (A (0 + ii))).n ≤ _; omega) | (show 0 < (hBeg S (A (0 + ii))).n; omega) | exact len_t hn2 (by assumption) | exact len_f (by assumption) | (simp; done) | (simp; omega))
        ·
          first | (apply Nat.ble_eq_true_of_le; omega) | (simp [Nat.blt_eq]; omega) | exact Nat.le_refl _ | exact hn | omega | (simp only [e, fcc]; done) | ((try simp only [e, fcc]); first | rfl | exact Nat.le_refl _ | exact .inl ⟨rfl, rfl⟩ | exact fun _ => rfl | (show (hBeg S (A (0 + ii))).n ≤ _; omega) | (show 0 < (hBeg S (A (0 + ii))).n; omega) | exact len_t hn2 (by assumption) | exact len_f (by assumption) | (simp; done) | (simp; omega))
        ·
          first | exact Nat.le_refl _ | omega | exact Nat.le_refl _ | exact hn | omega | (simp only [e, fcc]; done) | ((try simp only [e, fcc]); first | rfl | exact Nat.le_refl _ | exact .inl ⟨rfl, rfl⟩ | exact fun _ => rfl | (show (hBeg S (A (0 + ii))).n ≤ _; omega) | (show 0 < (hBeg S (A (0 + ii))).n; omega) | exact len_t hn2 (by assumption) | exact len_f (by assumption) | (simp; done) | (simp; omega))
        ·
          first | omega | exact Nat.le_refl _ | exact hn | omega | (simp only [e, fcc]; done) | ((try simp only [e, fcc]); first | rfl | exact Nat.le_refl _ | exact .inl ⟨rfl, rfl⟩ | exact fun _ => rfl | (show (hBeg S (A (0 + ii))).n ≤ _; omega) | (show 0 < (hBeg S (A (0 + ii))).n; omega) | exact len_t hn2 (by assumption) | exact len_f (by assumption) | (simp; done) | (simp; omega))
        ·
          first | exact Nat.le_refl _ | omega | exact Nat.le_refl _ | exact hn | omega | (simp only [e, fcc]; done) | ((try simp only [e, fcc]); first | rfl | exact Nat.le_refl _ | exact .inl ⟨rfl, rfl⟩ | exact fun _ => rfl | (show (hBeg S (A (0 + ii))).n ≤ _; omega) | (show 0 < (hBeg S (A (0 + ii))).n; omega) | exact len_t hn2 (by assumption) | exact len_f (by assumption) | (simp; done) | (simp; omega))
        ·
          first | exact Nat.le_refl _ | omega | exact Nat.le_refl _ | exact hn | omega | (simp only [e, fcc]; done) | ((try simp only [e, fcc]); first | rfl | exact Nat.le_refl _ | exact .inl ⟨rfl, rfl⟩ | exact fun _ => rfl | (show (hBeg S (A (0 + ii))).n ≤ _; omega) | (show 0 < (hBeg S (A (0 + ii))).n; omega) | exact len_t hn2 (by assumption) | exact len_f (by assumption) | (simp; done) | (simp; omega))
        ·
          first | omega | exact Nat.le_refl _ | exact hn | omega | (simp only [e, fcc]; done) | ((try simp only [e, fcc]); first | rfl | exact Nat.le_refl _ | exact .inl ⟨rfl, rfl⟩ | exact fun _ => rfl | (show (hBeg S (A (0 + ii))).n ≤ _; omega) | (show 0 < (hBeg S (A (0 + ii))).n; omega) | exact len_t hn2 (by assumption) | exact len_f (by assumption) | (simp; done) | (simp; omega))
        ·
          first | (apply Nat.ble_eq_true_of_le; omega) | (simp [Nat.blt_eq]; omega) | exact Nat.le_refl _ | exact hn | omega | (simp only [e, fcc]; done) | ((try simp only [e, fcc]); first | rfl | exact Nat.le_refl _ | exact .inl ⟨rfl, rfl⟩ | exact fun _ => rfl | (show (hBeg S (A (0 + ii))).n ≤ _; omega) | (show 0 < (hBeg S (A (0 + ii))).n; omega) | exact len_t hn2 (by assumption) | exact len_f (by assumption) | (simp; done) | (simp; omega))
        ·
          first | (apply Nat.ble_eq_true_of_le; omega) | (simp [Nat.blt_eq]; omega) | exact Nat.le_refl _ | exact hn | omega | (simp only [e, fcc]; done) | ((try simp only [e, fcc]); first | rfl | exact Nat.le_refl _ | exact .inl ⟨rfl, rfl⟩ | exact fun _ => rfl | (show (hBeg S (A (0 + ii))).n ≤ _; omega) | (show 0 < (hBeg S (A (0 + ii))).n; omega) | exact len_t hn2 (by assumption) | exact len_f (by assumption) | (simp; done) | (simp; omega))
    | false =>
      cases h4 : ((A (0 + ii)).1.tmod 3 == 1) with
      | true =>
        first | (have e := stp0 (S := S) (x := A (0 + ii)) (by assumption)) | (have e := stp1 (S := S) (x := A (0 + ii)) (by assumption) (by assumption)) | (have e := stp2 (S := S) (x := A (0 + ii)) (by assumption) (by assumption))
        refine round_norm (s0 := orU m f) (T := orF m A) (i := .b ii S) (.b (ii + 1) (hStp S (A (0 + ii)))) (rb_3 m ii A f S) (ob_cons rfl (ob_cons rfl (ob_cons rfl (ob_cons rfl (ob_cons rfl (ob_cons ?_ (ob_cons rfl (ob_cons ?_ (ob_cons rfl (ob_cons ?_ (ob_cons rfl (ob_cons ?_ (ob_cons ?_ (ob_cons ?_ (ob_cons rfl (ob_cons (Nat.le_refl _) (ob_cons (.inl ⟨rfl, rfl⟩) (ob_cons ?_ (ob_cons (Nat.le_refl _) (ob_cons ?_ (ob_cons ?_ (ob_cons (Nat.le_refl _) (ob_cons ?_ (ob_cons h4 (ob_cons h2 (ob_cons (Nat.le_refl _) (ob_cons ?_ (ob_cons ?_ (ob_cons ?_ (ob_cons ?_ (ob_cons h1 ob_nil))))))))))))))))))))))))))))))) ⟨by omega, by (rw [hS]; rfl), by omega, by omega⟩ (by show m - (ii + 1) < m - ii; omega)
        ·
          first | exact wrap_nat64 _ (by simp; omega) (by simp; omega) | exact Nat.le_refl _ | exact hn | omega | (simp only [e, fcc]; done) | ((try simp only [e, fcc]); first | rfl | exact Nat.le_refl _ | exact .inl ⟨rfl, rfl⟩ | exact fun _ => rfl | (show (hBeg S (A (0 + ii))).n ≤ _; omega) | (show 0 < (hBeg S (A (0 + ii))).n; omega) | exact len_t hn2 (by assumption) | exact len_f (by assumption) | (simp; done) | (simp; omega))
        ·
          first | rfl | exact Nat.le_refl _ | exact hn | omega | (simp only [e, fcc]; done) | ((try simp only [e, fcc]); first | rfl | exact Nat.le_refl _ | exact .inl ⟨rfl, rfl⟩ | exact fun _ => rfl | (show (hBeg S (A (0 + ii))).n ≤ _; omega) | (show 0 < (hBeg S (A (0 + ii))).n; omega) | exact len_t hn2 (by assumption) | exact len_f (by assumption) | (simp; done) | (simp; omega))
        ·
          first | rfl | exact Nat.le_refl _ | exact hn | omega | (simp only [e, fcc]; done) | ((try simp only [e, fcc]); first | rfl | exact Nat.le_refl _ | exact .inl ⟨rfl, rfl⟩ | exact fun _ => rfl | (show (hBeg S (A (0 + ii))).n ≤ _; omega) | (show 0 < (hBeg S (A (0 + ii))).n; omega) | exact len_t hn2 (by assumption) | exact len_f (by assumption) | (simp; done) | (simp; omega))
        ·
          first | exact Nat.le_refl _ | omega | exact Nat.le_refl _ | exact hn | omega | (simp only [e, fcc]; done) | ((try simp only [e, fcc]); first | rfl | exact Nat.le_refl _ | exact .inl ⟨rfl, rfl⟩ | exact fun _ => rfl | (show (hBeg S (A (0 + ii))).n ≤ _; omega) | (show 0 < (hBeg S (A (0 + ii))).n; omega) | exact len_t hn2 (by assumption) | exact len_f (by assumption) | (simp; done) | (simp; omega))
        ·
          first | exact .inl ⟨rfl, rfl⟩ | exact Nat.le_refl _ | exact hn | omega | (simp only [e, fcc]; done) | ((try simp only [e, fcc]); first | rfl | exact Nat.le_refl _ | exact .inl ⟨rfl, rfl⟩ | exact fun _ => rfl | (show (hBeg S (A (0 + ii))).n ≤ _; omega) | (show 0 < (hBeg S (A (0 + ii))).n; omega) | exact len_t hn2 (by assumption) | exact len_f (by assumption) | (simp; done) | (simp; omega))
        ·
          first | exact fun _ => rfl | exact Nat.le_refl _ | exact hn | omega | (simp only [e, fcc]; done) | ((try simp only [e, fcc]); first | rfl | exact Nat.le_refl _ | exact .inl ⟨rfl, rfl⟩ | exact fun _ => rfl | (show (hBeg S (A (0 + ii))).n ≤ _; omega) | (show 0 < (hBeg S (A (0 + ii))).n; omega) | exact len_t hn2 (by assumption) | exact len_f (by assumption) | (simp; done) | (simp; omega))
        ·
          first | (apply Nat.ble_eq_true_of_le; omega) | (simp [Nat.blt_eq]; omega) | exact Nat.le_refl _ | exact hn | omega | (simp only [e, fcc]; done) | ((try simp only [e, fcc]); first | rfl | exact Nat.le_refl _ | exact .inl ⟨rfl, rfl⟩ | exact fun _ => rfl | (show (hBeg S (A (0 + ii))).n ≤ _; omega) | (show 0 < (hBeg S (A (0 + ii))).n; omega) | exact len_t hn2 (by assumption) | exact len_f (by assumption) | (simp; done) | (simp; omega))
        ·
          first | exact Nat.le_refl _ | omega | exact Nat.le_refl _ | exact hn | omega | (simp only [e, fcc]; done) | ((try simp only [e, fcc]); first | rfl | exact Nat.le_refl _ | exact .inl ⟨rfl, rfl⟩ | exact fun _ => rfl | (show (hBeg S (A (0 + ii))).n ≤ _; omega) | (show 0 < (hBeg S (A (0 + ii))).n; omega) | exact len_t hn2 (by assumption) | exact len_f (by assumption) | (simp; done) | (simp; omega))
        ·
          first | omega | exact Nat.le_refl _ | exact hn | omega | (simp only [e, fcc]; done) | ((try simp only [e, fcc]); first | rfl | exact Nat.le_refl _ | exact .inl ⟨rfl, rfl⟩ | exact fun _ => rfl | (show (hBeg S (A (0 + ii))).n ≤ _; omega) | (show 0 < (hBeg S (A (0 + ii))).n; omega) | exact len_t hn2 (by assumption) | exact len_f (by assumption) | (simp; done) | (simp; omega))
        ·
          first | exact Nat.le_refl _ | omega | exact Nat.le_refl _ | exact hn | omega | (simp only [e, fcc]; done) | ((try simp only [e, fcc]); first | rfl | exact Nat.le_refl _ | exact .inl ⟨rfl, rfl⟩ | exact fun _ => rfl | (show (hBeg S (A (0 + ii))).n ≤ _; omega) | (show 0 < (hBeg S (A (0 + ii))).n; omega) | exact len_t hn2 (by assumption) | exact len_f (by assumption) | (simp; done) | (simp; omega))
        ·
          first | exact Nat.le_refl _ | omega | exact Nat.le_refl _ | exact hn | omega | (simp only [e, fcc]; done) | ((try simp only [e, fcc]); first | rfl | exact Nat.le_refl _ | exact .inl ⟨rfl, rfl⟩ | exact fun _ => rfl | (show (hBeg S (A (0 + ii))).n ≤ _; omega) | (show 0 < (hBeg S (A (0 + ii))).n; omega) | exact len_t hn2 (by assumption) | exact len_f (by assumption) | (simp; done) | (simp; omega))
        ·
          first | omega | exact Nat.le_refl _ | exact hn | omega | (simp only [e, fcc]; done) | ((try simp only [e, fcc]); first | rfl | exact Nat.le_refl _ | exact .inl ⟨rfl, rfl⟩ | exact fun _ => rfl | (show (hBeg S (A (0 + ii))).n ≤ _; omega) | (show 0 < (hBeg S (A (0 + ii))).n; omega) | exact len_t hn2 (by assumption) | exact len_f (by assumption) | (simp; done) | (simp; omega))
        ·
          first | (apply Nat.ble_eq_true_of_le; omega) | (simp [Nat.blt_eq]; omega) | exact Nat.le_refl _ | exact hn | omega | (simp only [e, fcc]; done) | ((try simp only [e, fcc]); first | rfl | exact Nat.le_refl _ | exact .inl ⟨rfl, rfl⟩ | exact fun _ => rfl | (show (hBeg S (A (0 + ii))).n ≤ _; omega) | (show 0 < (hBeg S (A (0 + ii))).n; omega) | exact len_t hn2 (by assumption) | exact len_f (by assumption) | (simp; done) | (simp; omega))
        ·
          first | (apply Nat.ble_eq_true_of_le; omega) | (simp [Nat.blt_eq]; omega) | exact Nat.le_refl _ | exact hn | omega | (simp only [e, fcc]; done) | ((try simp only [e, fcc]); first | rfl | exact Nat.le_refl _ | exact .inl ⟨rfl, rfl⟩ | exact fun _ => rfl | (show (hBeg S (A (0 + ii))).n ≤ _; omega) | (show 0 < (hBeg S (A (0 + ii))).n; omega) | exact len_t hn2 (by assumption) | exact len_f (by assumption) | (simp; done) | (simp; omega))
      | false =>
        first | (have e := stp0 (S := S) (x := A (0 + ii)) (by assumption)) | (have e := stp1 (S := S) (x := A (0 + ii)) (by assumption) (by assumption)) | (have e := stp2 (S := S) (x := A (0 + ii)) (by assumption) (by assumption))
        refine round_norm (s0 := orU m f) (T := orF m A) (i := .b ii S) (.b (ii + 1) (hStp S (A (0 + ii)))) (rb_4 m ii A f S) (ob_cons rfl (ob_cons rfl (ob_cons rfl (ob_cons rfl (ob_cons rfl (ob_cons ?_ (ob_cons rfl (ob_cons ?_ (ob_cons rfl (ob_cons ?_ (ob_cons rfl (ob_cons ?_ (ob_cons ?_ (ob_cons ?_ (ob_cons rfl (ob_cons (Nat.le_refl _) (ob_cons (.inl ⟨rfl, rfl⟩) (ob_cons ?_ (ob_cons (Nat.le_refl _) (ob_cons ?_ (ob_cons ?_ (ob_cons (Nat.le_refl _) (ob_cons ?_ (ob_cons h4 (ob_cons h2 (ob_cons (Nat.le_refl _) (ob_cons ?_ (ob_cons ?_ (ob_cons ?_ (ob_cons ?_ (ob_cons h1 ob_nil))))))))))))))))))))))))))))))) ⟨by omega, by (rw [hS]; rfl), by omega, by omega⟩ (by show m - (ii + 1) < m - ii; omega)
        ·
          first | exact wrap_nat64 _ (by simp; omega) (by simp; omega) | exact Nat.le_refl _ | exact hn | omega | (simp only [e, fcc]; done) | ((try simp only [e, fcc]); first | rfl | exact Nat.le_refl _ | exact .inl ⟨rfl, rfl⟩ | exact fun _ => rfl | (show (hBeg S (A (0 + ii))).n ≤ _; omega) | (show 0 < (hBeg S (A (0 + ii))).n; omega) | exact len_t hn2 (by assumption) | exact len_f (by assumption) | (simp; done) | (simp; omega))
        ·
          first | rfl | exact Nat.le_refl _ | exact hn | omega | (simp only [e, fcc]; done) | ((try simp only [e, fcc]); first | rfl | exact Nat.le_refl _ | exact .inl ⟨rfl, rfl⟩ | exact fun _ => rfl | (show (hBeg S (A (0 + ii))).n ≤ _; omega) | (show 0 < (hBeg S (A (0 + ii))).n; omega) | exact len_t hn2 (by assumption) | exact len_f (by assumption) | (simp; done) | (simp; omega))
        ·
          first | rfl | exact Nat.le_refl _ | exact hn | omega | (simp only [e, fcc]; done) | ((try simp only [e, fcc]); first | rfl | exact Nat.le_refl _ | exact .inl ⟨rfl, rfl⟩ | exact fun _ => rfl | (show (hBeg S (A (0 + ii))).n ≤ _; omega) | (show 0 < (hBeg S (A (0 + ii))).n; omega) | exact len_t hn2 (by assumption) | exact len_f (by assumption) | (simp; done) | (simp; omega))
        ·
          first | exact Nat.le_refl _ | omega | exact Nat.le_refl _ | exact hn | omega | (simp only [e, fcc]; done) | ((try simp only [e, fcc]); first | rfl | exact Nat.le_refl _ | exact .inl ⟨rfl, rfl⟩ | exact fun _ => rfl | (show (hBeg S (A (0 + ii))).n ≤ _; omega) | (show 0 < (hBeg S (A (0 + ii))).n; omega) | exact len_t hn2 (by assumption) | exact len_f (by assumption) | (simp; done) | (simp; omega))
        ·
          first | exact .inl ⟨rfl, rfl⟩ | exact Nat.le_refl _ | exact hn | omega | (simp only [e, fcc]; done) | ((try simp only [e, fcc]); first | rfl | exact Nat.le_refl _ | exact .inl ⟨rfl, rfl⟩ | exact fun _ => rfl | (show (hBeg S (A (0 + ii))).n ≤ _; omega) | (show 0 < (hBeg S (A (0 + ii))).n; omega) | exact len_t hn2 (by assumption) | exact len_f (by assumption) | (simp; done) | (simp; omega))
        ·
          first | exact fun _ => rfl | exact Nat.le_refl _ | exact hn | omega | (simp only [e, fcc]; done) | ((try simp only [e, fcc]); first | rfl | exact Nat.le_refl _ | exact .inl ⟨rfl, rfl⟩ | exact fun _ => rfl | (show (hBeg S (A (0 + ii))).n ≤ _; omega) | (show 0 < (hBeg S (A (0 + ii))).n; omega) | exact len_t hn2 (by assumption) | exact len_f (by assumption) | (simp; done) | (simp; omega))
        ·
          first | (apply Nat.ble_eq_true_of_le; omega) | (simp [Nat.blt_eq]; omega) | exact Nat.le_refl _ | exact hn | omega | (simp only [e, fcc]; done) | ((try simp only [e, fcc]); first | rfl | exact Nat.le_refl _ | exact .inl ⟨rfl, rfl⟩ | exact fun _ => rfl | (show (hBeg S (A (0 + ii))).n ≤ _; omega) | (show 0 < (hBeg S (A (0 + ii))).n; omega) | exact len_t hn2 (by assumption) | exact len_f (by assumption) | (simp; done) | (simp; omega))
        ·
          first | exact Nat.le_refl _ | omega | exact Nat.le_refl _ | exact hn | omega | (simp only [e, fcc]; done) | ((try simp only [e, fcc]); first | rfl | exact Nat.le_refl _ | exact .inl ⟨rfl, rfl⟩ | exact fun _ => rfl | (show (hBeg S (A (0 + ii))).n ≤ _; omega) | (show 0 < (hBeg S (A (0 + ii))).n; omega) | exact len_t hn2 (by assumption) | exact len_f (by assumption) | (simp; done) | (simp; omega))
        ·
          first | omega | exact Nat.le_refl _ | exact hn | omega | (simp only [e, fcc]; done) | ((try simp only [e, fcc]); first | rfl | exact Nat.le_refl _ | exact .inl ⟨rfl, rfl⟩ | exact fun _ => rfl | (show (hBeg S (A (0 + ii))).n ≤ _; omega) | (show 0 < (hBeg S (A (0 + ii))).n; omega) | exact len_t hn2 (by assumption) | exact len_f (by assumption) | (simp; done) | (simp; omega))
        ·
          first | exact Nat.le_refl _ | omega | exact Nat.le_refl _ | exact hn | omega | (simp only [e, fcc]; done) | ((try simp only [e, fcc]); first | rfl | exact Nat.le_refl _ | exact .inl ⟨rfl, rfl⟩ | exact fun _ => rfl | (show (hBeg S (A (0 + ii))).n ≤ _; omega) | (show 0 < (hBeg S (A (0 + ii))).n; omega) | exact len_t hn2 (by assumption) | exact len_f (by assumption) | (simp; done) | (simp; omega))
        ·
          first | exact Nat.le_refl _ | omega | exact Nat.le_refl _ | exact hn | omega | (simp only [e, fcc]; done) | ((try simp only [e, fcc]); first | rfl | exact Nat.le_refl _ | exact .inl ⟨rfl, rfl⟩ | exact fun _ => rfl | (show (hBeg S (A (0 + ii))).n ≤ _; omega) | (show 0 < (hBeg S (A (0 + ii))).n; omega) | exact len_t hn2 (by assumption) | exact len_f (by assumption) | (simp; done) | (simp; omega))
        ·
          first | omega | exact Nat.le_refl _ | exact hn | omega | (simp only [e, fcc]; done) | ((try simp only [e, fcc]); first | rfl | exact Nat.le_refl _ | exact .inl ⟨rfl, rfl⟩ | exact fun _ => rfl | (show (hBeg S (A (0 + ii))).n ≤ _; omega) | (show 0 < (hBeg S (A (0 + ii))).n; omega) | exact len_t hn2 (by assumption) | exact len_f (by assumption) | (simp; done) | (simp; omega))
        ·
          first | (apply Nat.ble_eq_true_of_le; omega) | (simp [Nat.blt_eq]; omega) | exact Nat.le_refl _ | exact hn | omega | (simp only [e, fcc]; done) | ((try simp only [e, fcc]); first | rfl | exact Nat.le_refl _ | exact .inl ⟨rfl, rfl⟩ | exact fun _ => rfl | (show (hBeg S (A (0 + ii))).n ≤ _; omega) | (show 0 < (hBeg S (A (0 + ii))).n; omega) | exact len_t hn2 (by assumption) | exact len_f (by assumption) | (simp; done) | (simp; omega))
        ·
          first | (apply Nat.ble_eq_true_of_le; omega) | (simp [Nat.blt_eq]; omega) | exact Nat.le_refl _ | exact hn | omega | (simp only [e, fcc]; done) | ((try simp only [e, fcc]); first | rfl | exact Nat.le_refl _ | exact .inl ⟨rfl, rfl⟩ | exact fun _ => rfl | (show (hBeg S (A (0 + ii))).n ≤ _; omega) | (show 0 < (hBeg S (A (0 + ii))).n; omega) | exact len_t hn2 (by assumption) | exact len_f (by assumption) | (simp; done) | (simp; omega))
  | false =>
    have g1 := of_decide_eq_false h1
    try simp only [Int.ofNat_eq_natCast, ge_iff_le, gt_iff_lt, Int.not_lt, Int.not_le] at g1
    obtain rfl : ii = m := by omega
    rw [hs hS]
    refine round_exit (s0 := orU ii f) (T := orF ii A) (i := .b ii S) (rb_5 ii ii A f S) (by simp) (ob_cons rfl (ob_cons rfl (ob_cons rfl (ob_cons rfl (ob_cons rfl (ob_cons rfl (ob_cons rfl (ob_cons rfl (ob_cons rfl (ob_cons rfl (ob_cons (Nat.le_refl _) (ob_cons (.inl ⟨rfl, rfl⟩) (ob_cons (fun _ => rfl) (ob_cons rfl (ob_cons (Nat.le_refl _) (ob_cons (.inl ⟨rfl, rfl⟩) (ob_cons h1 ob_nil)))))))))))))))))
set_option maxHeartbeats 1600000 in
theorem ra_round (m ii : Nat) (A : Nat → Ac) (f : Nat → Nat → AV) (s1 : St) (hm : m ≤ 200) (hi : ii ≤ m) (hz : (hN A ii).n = 0) (hs : (hN A m).n = 0 → s1 = orXA m A) : RoundOk EH3 lcR0 (orU m f) (.exit 0) s1 (orF m A) (orMu m) (orOk m A) (.a ii) := by
  obtain ⟨hU, hl⟩ := hN_nil ii hz
  cases h1 : (decide (Int.ofNat ii < Int.ofNat m)) with
  | true =>
    have g1 := of_decide_eq_true h1
    try simp only [Int.ofNat_eq_natCast, ge_iff_le, gt_iff_lt, Int.not_lt, Int.not_le] at g1
    cases h2 : ((A (0 + ii)).1.tmod 3 == 0) with
    | true =>
      cases h3 : (bgE 0 (-1) (A (0 + ii)).2 (A (0 + ii)).4 (A (0 + ii)).8 == 0) with
      | true =>
        have he : bgE 0 (-1) (A (0 + ii)).t (A (0 + ii)).o (A (0 + ii)).s = 0 := (by simp_all)
        have e1 : hOne (A (0 + ii)) = hN A (ii + 1) := (by show _ = hStp _ _; rw [stp0 (by assumption), hOne_eq hz hU hl he])
        refine round_norm (s0 := orU m f) (T := orF m A) (i := .a ii) (.b (ii + 1) (hOne (A (0 + ii)))) (ra_1 m ii A f) (ob_cons rfl (ob_cons rfl (ob_cons rfl (ob_cons rfl (ob_cons rfl (ob_cons ?_ (ob_cons rfl (ob_cons rfl (ob_cons rfl (ob_cons ?_ (ob_cons rfl (ob_cons (Nat.le_refl _) (ob_cons ?_ (ob_cons ?_ (ob_cons rfl (ob_cons (Nat.le_refl _) (ob_cons (.inl ⟨rfl, rfl⟩) (ob_cons ?_ (ob_cons (Nat.le_refl _) (ob_cons ?_ (ob_cons ?_ (ob_cons ?_ (ob_cons h3 (ob_cons h2 (ob_cons ?_ (ob_cons ?_ (ob_cons h1 ob_nil))))))))))))))))))))))))))) ⟨by omega, e1, Nat.one_pos, by (show 1 ≤ ii + 1; omega)⟩ (by show m - (ii + 1) < m - ii; omega)
        ·
          first | exact wrap_nat64 _ (by simp; omega) (by simp; omega) | omega | (simp_all; done) | ((try simp only [fcc]); first | rfl | exact Nat.le_refl _ | exact .inl ⟨rfl, rfl⟩ | exact fun _ => rfl | (simp; omega))
        ·
          first | rfl | omega | (simp_all; done) | ((try simp only [fcc]); first | rfl | exact Nat.le_refl _ | exact .inl ⟨rfl, rfl⟩ | exact fun _ => rfl | (simp; omega))
        ·
          first | exact .inl ⟨rfl, rfl⟩ | omega | (simp_all; done) | ((try simp only [fcc]); first | rfl | exact Nat.le_refl _ | exact .inl ⟨rfl, rfl⟩ | exact fun _ => rfl | (simp; omega))
        ·
          first | exact fun _ => rfl | omega | (simp_all; done) | ((try simp only [fcc]); first | rfl | exact Nat.le_refl _ | exact .inl ⟨rfl, rfl⟩ | exact fun _ => rfl | (simp; omega))
        ·
          first | (apply Nat.ble_eq_true_of_le; omega) | (simp [Nat.blt_eq]; omega) | omega | (simp_all; done) | ((try simp only [fcc]); first | rfl | exact Nat.le_refl _ | exact .inl ⟨rfl, rfl⟩ | exact fun _ => rfl | (simp; omega))
        ·
          first | exact Nat.le_refl _ | omega | omega | (simp_all; done) | ((try simp only [fcc]); first | rfl | exact Nat.le_refl _ | exact .inl ⟨rfl, rfl⟩ | exact fun _ => rfl | (simp; omega))
        ·
          first | omega | omega | (simp_all; done) | ((try simp only [fcc]); first | rfl | exact Nat.le_refl _ | exact .inl ⟨rfl, rfl⟩ | exact fun _ => rfl | (simp; omega))
        ·
          first | (apply Nat.ble_eq_true_of_le; omega) | (simp [Nat.blt_eq]; omega) | omega | (simp_all; done) | ((try simp only [fcc]); first | rfl | exact Nat.le_refl _ | exact .inl ⟨rfl, rfl⟩ | exact fun _ => rfl | (simp; omega))
        ·
          first | (apply Nat.ble_eq_true_of_le; omega) | (simp [Nat.blt_eq]; omega) | omega | (simp_all; done) | ((try simp only [fcc]); first | rfl | exact Nat.le_refl _ | exact .inl ⟨rfl, rfl⟩ | exact fun _ => rfl | (simp; omega))
        ·
          first | (apply Nat.ble_eq_true_of_le; omega) | (simp [Nat.blt_eq]; omega) | omega | (simp_all; done) | ((try simp only [fcc]); first | rfl | exact Nat.le_refl _ | exact .inl ⟨rfl, rfl⟩ | exact fun _ => rfl | (simp; omega))
      | false =>
        refine round_norm (s0 := orU m f) (T := orF m A) (i := .a ii) (.a (ii + 1)) (ra_2 m ii A f) (ob_cons rfl (ob_cons rfl (ob_cons rfl (ob_cons rfl (ob_cons rfl (ob_cons ?_ (ob_cons rfl (ob_cons rfl (ob_cons (Nat.le_refl _) (ob_cons (.inl ⟨rfl, rfl⟩) (ob_cons h3 (ob_cons h3 (ob_cons h2 (ob_cons ?_ (ob_cons ?_ (ob_cons h1 ob_nil)))))))))))))))) ⟨by omega, by (show (hStp _ _).n = 0; first | (rw [stp0 (by assumption)]; exact hNil_eq hz hU hl (by simp_all)) | (rw [stp1 (by assumption) (by assumption)]; exact hz) | (rw [stp2 (by assumption) (by assumption)]; exact hz))⟩ (by show m - (ii + 1) < m - ii; omega)
        ·
          first | exact wrap_nat64 _ (by simp; omega) (by simp; omega) | omega | (simp_all; done) | ((try simp only [fcc]); first | rfl | exact Nat.le_refl _ | exact .inl ⟨rfl, rfl⟩ | exact fun _ => rfl | (simp; omega))
        ·
          first | (apply Nat.ble_eq_true_of_le; omega) | (simp [Nat.blt_eq]; omega) | omega | (simp_all; done) | ((try simp only [fcc]); first | rfl | exact Nat.le_refl _ | exact .inl ⟨rfl, rfl⟩ | exact fun _ => rfl | (simp; omega))
        ·
          first | (apply Nat.ble_eq_true_of_le; omega) | (simp [Nat.blt_eq]; omega) | omega | (simp_all; done) | ((try simp only [fcc]); first | rfl | exact Nat.le_refl _ | exact .inl ⟨rfl, rfl⟩ | exact fun _ => rfl | (simp; omega))
    | false =>
      cases h4 : ((A (0 + ii)).1.tmod 3 == 1) with
      | true =>
        refine round_norm (s0 := orU m f) (T := orF m A) (i := .a ii) (.a (ii + 1)) (ra_3 m ii A f) (ob_cons rfl (ob_cons rfl (ob_cons rfl (ob_cons rfl (ob_cons rfl (ob_cons ?_ (ob_cons rfl (ob_cons rfl (ob_cons (Nat.le_refl _) (ob_cons (.inl ⟨rfl, rfl⟩) (ob_cons h4 (ob_cons h2 (ob_cons ?_ (ob_cons ?_ (ob_cons h1 ob_nil))))))))))))))) ⟨by omega, by (show (hStp _ _).n = 0; first | (rw [stp0 (by assumption)]; exact hNil_eq hz hU hl (by simp_all)) | (rw [stp1 (by assumption) (by assumption)]; exact hz) | (rw [stp2 (by assumption) (by assumption)]; exact hz))⟩ (by show m - (ii + 1) < m - ii; omega)
        ·
          first | exact wrap_nat64 _ (by simp; omega) (by simp; omega) | omega | (simp_all; done) | ((try simp only [fcc]); first | rfl | exact Nat.le_refl _ | exact .inl ⟨rfl, rfl⟩ | exact fun _ => rfl | (simp; omega))
        ·
          first | (apply Nat.ble_eq_true_of_le; omega) | (simp [Nat.blt_eq]; omega) | omega | (simp_all; done) | ((try simp only [fcc]); first | rfl | exact Nat.le_refl _ | exact .inl ⟨rfl, rfl⟩ | exact fun _ => rfl | (simp; omega))
        ·
          first | (apply Nat.ble_eq_true_of_le; omega) | (simp [Nat.blt_eq]; omega) | omega | (simp_all; done) | ((try simp only [fcc]); first | rfl | exact Nat.le_refl _ | exact .inl ⟨rfl, rfl⟩ | exact fun _ => rfl | (simp; omega))
      | false =>
        refine round_norm (s0 := orU m f) (T := orF m A) (i := .a ii) (.a (ii + 1)) (ra_4 m ii A f) (ob_cons rfl (ob_cons rfl (ob_cons rfl (ob_cons rfl (ob_cons rfl (ob_cons ?_ (ob_cons rfl (ob_cons rfl (ob_cons (Nat.le_refl _) (ob_cons (.inl ⟨rfl, rfl⟩) (ob_cons h4 (ob_cons h2 (ob_cons ?_ (ob_cons ?_ (ob_cons h1 ob_nil))))))))))))))) ⟨by omega, by (show (hStp _ _).n = 0; first | (rw [stp0 (by assumption)]; exact hNil_eq hz hU hl (by simp_all)) | (rw [stp1 (by assumption) (by assumption)]; exact hz) | (rw [stp2 (by assumption) (by assumption)]; exact hz))⟩ (by show m - (ii + 1) < m - ii; omega)
        ·
          first | exact wrap_nat64 _ (by simp; omega) (by simp; omega) | omega | (simp_all; done) | ((try simp only [fcc]); first | rfl | exact Nat.le_refl _ | exact .inl ⟨rfl, rfl⟩ | exact fun _ => rfl | (simp; omega))
        ·
          first | (apply Nat.ble_eq_true_of_le; omega) | (simp [Nat.blt_eq]; omega) | omega | (simp_all; done) | ((try simp only [fcc]); first | rfl | exact Nat.le_refl _ | exact .inl ⟨rfl, rfl⟩ | exact fun _ => rfl | (simp; omega))
        ·
          first | (apply Nat.ble_eq_true_of_le; omega) | (simp [Nat.blt_eq]; omega) | omega | (simp_all; done) | ((try simp only [fcc]); first | rfl | exact Nat.le_refl _ | exact .inl ⟨rfl, rfl⟩ | exact fun _ => rfl | (simp; omega))
  | false =>
    have g1 := of_decide_eq_false h1
    try simp only [Int.ofNat_eq_natCast, ge_iff_le, gt_iff_lt, Int.not_lt, Int.not_le] at g1
    obtain rfl : ii = m := by omega
    rw [hs hz]
    refine round_exit (s0 := orU ii f) (T := orF ii A) (i := .a ii) (ra_5 ii ii A f) (by simp) (ob_cons rfl (ob_cons rfl (ob_cons rfl (ob_cons rfl (ob_cons rfl (ob_cons rfl (ob_cons (Nat.le_refl _) (ob_cons (.inl ⟨rfl, rfl⟩) (ob_cons h1 ob_nil)))))))))
theorem ori_1 (m : Nat) (A : Nat → Ac) (f : Nat → Nat → AV) : castSt ((orU m f).hp) [] (orU m f) (orA m A 0) =
 some ([(0 : Nat) = 0,
 m = m,
 (none : Option Nat) = none,
 (0 : Nat) = 0,
 (0 : Nat) = 0,
 (0 : Int) = 0,
 true = true,
 m ≤ m,
 acF A = f ∧ plainSh aSh = true ∨ ∀ (i : Nat), i < m → rowOb aSh 0 (f i) (acF A i)]) := by kernel_rfl
theorem or_lp (m : Nat) (A : Nat → Ac) (f : Nat → Nat → AV) (s1 : St) (hm : m ≤ 200) (hA : ∀ i, i < m → acOf (f i) = A i) (h0 : (hN A m).n = 0 → s1 = orXA m A) (h1 : 0 < (hN A m).n → s1 = orXB m A (hN A m)) : LoopHolds Try.prog lcR0 (orU m f) (.exit 0) s1 := by
  refine loop_rule EH3_ok (I := HI) (orF m A) (orMu m) (orOk m A) ?_ (fun x hx => ?_)
  ·
    refine ⟨.a 0, [], _, ⟨Nat.zero_le _, rfl⟩, ori_1 m A f, (ob_cons rfl (ob_cons rfl (ob_cons rfl (ob_cons rfl (ob_cons rfl (ob_cons rfl (ob_cons rfl (ob_cons (Nat.le_refl _) (ob_cons ?_ ob_nil)))))))))⟩
    ·
      first | exact .inl ⟨rfl, rfl⟩ | exact .inr (fun i hi => row_ac (hA i hi)) | exact .inl ⟨rfl, rfl⟩
  · cases x with
    | a ii => exact ra_round m ii A f s1 hm hx.1 hx.2 h0
    | b ii S =>
      obtain ⟨x1, x2, x3, x4⟩ := hx
      exact rb_round m ii A f S s1 hm x1 x2 x3 x4 (fun e => by
        have : 0 < (hN A m).n := by rw [← e]; exact x3
        rw [h1 this, e])
end Go.Proofs.Ytnecknppajbcdaa
