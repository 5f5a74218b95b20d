/-
  Histories: Begin.
-/
import Derived.Test.YtnecknppajbcdaaHs2Def
set_option linter.unusedSimpArgs false
set_option linter.unusedVariables false
namespace Go.Proofs.Ytnecknppajbcdaa
open Go.Ev
theorem beg_1 (t o ky va s : Int) (n l : Nat) (f : Nat → Nat → AV) (U : List Int → Option Int) (last : Int) : callB EH2 2000 25 [AV.ptr 1 0 0, AV.sym IntKind.i64 t, AV.sym IntKind.u8 o, AV.sym IntKind.u64 ky, AV.sym IntKind.u64 va, AV.sym IntKind.i64 s] (begH t o ky va s n l f U last) (begR t o ky va s n l f U last) [(4, Src.nm 2)] [Hint.b true, Hint.b true, Hint.b true, Hint.node [(16, [Hint.b true])]] =
 some ([-1 = onOk (bgE last (undI U t) t o s) (Int.ofNat n) (-1),
 1 = bgE last (undI U t) t o s,
 (0 : Nat) = 0,
 n = onOk (bgE last (undI U t) t o s) (n + 1) n,
 (none : Option Nat) = none,
 last = onOk (bgE last (undI U t) t o s) s last,
 false = false,
 onOk (bgE last (undI U t) t o s) (n + 1) n ≤ l,
 cF (snocC n (fCl f) (mkCl t o ky va s)) = f ∧ plainSh cSh = true ∨ ∀ (i : Nat), i < onOk (bgE last (undI U t) t o s) (n + 1) n → rowOb cSh 0 (f i) (cF (snocC n (fCl f) (mkCl t o ky va s)) i),
 ∀ (k : List Int), U k = onOk (bgE last (undI U t) t o s) (setKey U [t] (some (Int.ofNat n))) U k,
 (!decide (s ≥ last)) = true,
 decide (o ≤ 7) = true,
 decide (t < 16) = true,
 decide (t ≥ 0) = true]) := by kernel_rfl
theorem beg_2 (t o ky va s : Int) (n l : Nat) (f : Nat → Nat → AV) (U : List Int → Option Int) (last : Int) : callB EH2 2000 25 [AV.ptr 1 0 0, AV.sym IntKind.i64 t, AV.sym IntKind.u8 o, AV.sym IntKind.u64 ky, AV.sym IntKind.u64 va, AV.sym IntKind.i64 s] (begH t o ky va s n l f U last) (begR t o ky va s n l f U last) [(4, Src.nm 2)] [Hint.b true, Hint.b true, Hint.b true, Hint.node [(16, [Hint.b false, Hint.b true])]] =
 some ([-1 = onOk (bgE last (undI U t) t o s) (Int.ofNat n) (-1),
 7 = bgE last (undI U t) t o s,
 (0 : Nat) = 0,
 n = onOk (bgE last (undI U t) t o s) (n + 1) n,
 (none : Option Nat) = none,
 last = onOk (bgE last (undI U t) t o s) s last,
 false = false,
 onOk (bgE last (undI U t) t o s) (n + 1) n ≤ l,
 cF (snocC n (fCl f) (mkCl t o ky va s)) = f ∧ plainSh cSh = true ∨ ∀ (i : Nat), i < onOk (bgE last (undI U t) t o s) (n + 1) n → rowOb cSh 0 (f i) (cF (snocC n (fCl f) (mkCl t o ky va s)) i),
 ∀ (k : List Int), U k = onOk (bgE last (undI U t) t o s) (setKey U [t] (some (Int.ofNat n))) U k,
 (undI U t != -1) = true,
 (!decide (s ≥ last)) = false,
 decide (o ≤ 7) = true,
 decide (t < 16) = true,
 decide (t ≥ 0) = true]) := by kernel_rfl
theorem beg_3 (t o ky va s : Int) (n l : Nat) (f : Nat → Nat → AV) (U : List Int → Option Int) (last : Int) : callB EH2 2000 25 [AV.ptr 1 0 0, AV.sym IntKind.i64 t, AV.sym IntKind.u8 o, AV.sym IntKind.u64 ky, AV.sym IntKind.u64 va, AV.sym IntKind.i64 s] (begH t o ky va s n l f U last) (begR t o ky va s n l f U last) [(4, Src.nm 2)] [Hint.b true, Hint.b true, Hint.b true, Hint.node [(16, [Hint.b false, Hint.b false, Hint.b true])]] =
 some ([-1 = onOk (bgE last (undI U t) t o s) (Int.ofNat n) (-1),
 5 = bgE last (undI U t) t o s,
 (0 : Nat) = 0,
 n = onOk (bgE last (undI U t) t o s) (n + 1) n,
 (none : Option Nat) = none,
 last = onOk (bgE last (undI U t) t o s) s last,
 false = false,
 onOk (bgE last (undI U t) t o s) (n + 1) n ≤ l,
 cF (snocC n (fCl f) (mkCl t o ky va s)) = f ∧ plainSh cSh = true ∨ ∀ (i : Nat), i < onOk (bgE last (undI U t) t o s) (n + 1) n → rowOb cSh 0 (f i) (cF (snocC n (fCl f) (mkCl t o ky va s)) i),
 ∀ (k : List Int), U k = onOk (bgE last (undI U t) t o s) (setKey U [t] (some (Int.ofNat n))) U k,
 decide (Int.ofNat n ≥ 1048576) = true,
 (undI U t != -1) = false,
 (!decide (s ≥ last)) = false,
 decide (o ≤ 7) = true,
 decide (t < 16) = true,
 decide (t ≥ 0) = true]) := by kernel_rfl
theorem beg_4 (t o ky va s : Int) (n l : Nat) (f : Nat → Nat → AV) (U : List Int → Option Int) (last : Int) : callB EH2 2000 25 [AV.ptr 1 0 0, AV.sym IntKind.i64 t, AV.sym IntKind.u8 o, AV.sym IntKind.u64 ky, AV.sym IntKind.u64 va, AV.sym IntKind.i64 s] (begH t o ky va s n l f U last) (begR t o ky va s n l f U last) [(4, Src.nm 3682564433883159603764838408931049046243722301798447888168702789108150520955258874243678853866642176794747519643505079885369413614121067184994593538035)] [Hint.b true, Hint.b true, Hint.b true, Hint.node [(16, [Hint.b false, Hint.b false, Hint.b false])]] =
 some ([Int.ofNat n = onOk (bgE last (undI U t) t o s) (Int.ofNat n) (-1),
 0 = bgE last (undI U t) t o s,
 (0 : Nat) = 0,
 n + 1 = onOk (bgE last (undI U t) t o s) (n + 1) n,
 (none : Option Nat) = none,
 s = onOk (bgE last (undI U t) t o s) s last,
 false = false,
 onOk (bgE last (undI U t) t o s) (n + 1) n ≤ n + 1,
 (cF (snocC n (fCl f) (mkCl t o ky va s)) = fun i j => if i < n then f (0 + i) j else rowsOf 9 [AV.sym IntKind.i64 t, AV.sym IntKind.u8 o, AV.sym IntKind.u64 ky, AV.sym IntKind.u64 va, cellOf (Value.int IntKind.u8 0), cellOf (Value.int IntKind.u64 0), AV.sym IntKind.i64 s, ofVal (Value.int IntKind.i64 (-1)), ofVal (Value.int IntKind.i64 (-1))] (i - n) j) ∧ plainSh cSh = true ∨ ∀ (i : Nat), i < onOk (bgE last (undI U t) t o s) (n + 1) n → rowOb cSh 0 (fun j => if i < n then f (0 + i) j else rowsOf 9 [AV.sym IntKind.i64 t, AV.sym IntKind.u8 o, AV.sym IntKind.u64 ky, AV.sym IntKind.u64 va, cellOf (Value.int IntKind.u8 0), cellOf (Value.int IntKind.u64 0), AV.sym IntKind.i64 s, ofVal (Value.int IntKind.i64 (-1)), ofVal (Value.int IntKind.i64 (-1))] (i - n) j) (cF (snocC n (fCl f) (mkCl t o ky va s)) i),
 ∀ (k : List Int), setKey U [t] (some (Int.ofNat n)) k = onOk (bgE last (undI U t) t o s) (setKey U [t] (some (Int.ofNat n))) U k,
 ((n + 1) * 72).ble 70368744177664 = true,
 (0 + n).ble l = true,
 decide (Int.ofNat n ≥ 1048576) = false,
 (undI U t != -1) = false,
 (!decide (s ≥ last)) = false,
 decide (o ≤ 7) = true,
 decide (t < 16) = true,
 decide (t ≥ 0) = true]) := by kernel_rfl
theorem beg_5 (t o ky va s : Int) (n l : Nat) (f : Nat → Nat → AV) (U : List Int → Option Int) (last : Int) : callB EH2 2000 25 [AV.ptr 1 0 0, AV.sym IntKind.i64 t, AV.sym IntKind.u8 o, AV.sym IntKind.u64 ky, AV.sym IntKind.u64 va, AV.sym IntKind.i64 s] (begH t o ky va s n l f U last) (begR t o ky va s n l f U last) [(4, Src.nm 2)] [Hint.b true, Hint.b true, Hint.b false] =
 some ([-1 = onOk (bgE last (undI U t) t o s) (Int.ofNat n) (-1),
 1 = bgE last (undI U t) t o s,
 (0 : Nat) = 0,
 n = onOk (bgE last (undI U t) t o s) (n + 1) n,
 (none : Option Nat) = none,
 last = onOk (bgE last (undI U t) t o s) s last,
 false = false,
 onOk (bgE last (undI U t) t o s) (n + 1) n ≤ l,
 cF (snocC n (fCl f) (mkCl t o ky va s)) = f ∧ plainSh cSh = true ∨ ∀ (i : Nat), i < onOk (bgE last (undI U t) t o s) (n + 1) n → rowOb cSh 0 (f i) (cF (snocC n (fCl f) (mkCl t o ky va s)) i),
 ∀ (k : List Int), U k = onOk (bgE last (undI U t) t o s) (setKey U [t] (some (Int.ofNat n))) U k,
 decide (o ≤ 7) = false,
 decide (t < 16) = true,
 decide (t ≥ 0) = true]) := by kernel_rfl
theorem beg_6 (t o ky va s : Int) (n l : Nat) (f : Nat → Nat → AV) (U : List Int → Option Int) (last : Int) : callB EH2 2000 25 [AV.ptr 1 0 0, AV.sym IntKind.i64 t, AV.sym IntKind.u8 o, AV.sym IntKind.u64 ky, AV.sym IntKind.u64 va, AV.sym IntKind.i64 s] (begH t o ky va s n l f U last) (begR t o ky va s n l f U last) [(4, Src.nm 2)] [Hint.b true, Hint.b false] =
 some ([-1 = onOk (bgE last (undI U t) t o s) (Int.ofNat n) (-1),
 1 = bgE last (undI U t) t o s,
 (0 : Nat) = 0,
 n = onOk (bgE last (undI U t) t o s) (n + 1) n,
 (none : Option Nat) = none,
 last = onOk (bgE last (undI U t) t o s) s last,
 false = false,
 onOk (bgE last (undI U t) t o s) (n + 1) n ≤ l,
 cF (snocC n (fCl f) (mkCl t o ky va s)) = f ∧ plainSh cSh = true ∨ ∀ (i : Nat), i < onOk (bgE last (undI U t) t o s) (n + 1) n → rowOb cSh 0 (f i) (cF (snocC n (fCl f) (mkCl t o ky va s)) i),
 ∀ (k : List Int), U k = onOk (bgE last (undI U t) t o s) (setKey U [t] (some (Int.ofNat n))) U k,
 decide (t < 16) = false,
 decide (t ≥ 0) = true]) := by kernel_rfl
theorem beg_7 (t o ky va s : Int) (n l : Nat) (f : Nat → Nat → AV) (U : List Int → Option Int) (last : Int) : callB EH2 2000 25 [AV.ptr 1 0 0, AV.sym IntKind.i64 t, AV.sym IntKind.u8 o, AV.sym IntKind.u64 ky, AV.sym IntKind.u64 va, AV.sym IntKind.i64 s] (begH t o ky va s n l f U last) (begR t o ky va s n l f U last) [(4, Src.nm 2)] [Hint.b false] =
 some ([-1 = onOk (bgE last (undI U t) t o s) (Int.ofNat n) (-1),
 1 = bgE last (undI U t) t o s,
 (0 : Nat) = 0,
 n = onOk (bgE last (undI U t) t o s) (n + 1) n,
 (none : Option Nat) = none,
 last = onOk (bgE last (undI U t) t o s) s last,
 false = false,
 onOk (bgE last (undI U t) t o s) (n + 1) n ≤ l,
 cF (snocC n (fCl f) (mkCl t o ky va s)) = f ∧ plainSh cSh = true ∨ ∀ (i : Nat), i < onOk (bgE last (undI U t) t o s) (n + 1) n → rowOb cSh 0 (f i) (cF (snocC n (fCl f) (mkCl t o ky va s)) i),
 ∀ (k : List Int), U k = onOk (bgE last (undI U t) t o s) (setKey U [t] (some (Int.ofNat n))) U k,
 decide (t ≥ 0) = false]) := by kernel_rfl
theorem beg_loc (t o ky va s : Int) (n l : Nat) (f : Nat → Nat → AV) (U : List Int → Option Int) (last : Int) : LocOk Try.prog 25 [.ptr 1 0 0, .sym .i64 t, .sym .u8 o, .sym .u64 ky, .sym .u64 va, .sym .i64 s] (begH t o ky va s n l f U last) (begR t o ky va s n l f U last) := by
  refine loc_of_call EH2_ok (fun hp => ?_)
  have hl : n ≤ l := hp _ (List.mem_cons_self ..)
  have hm : n ≤ 100000 := hp _ (List.mem_cons_of_mem _ (List.mem_cons_self ..))
  clear hp
  cases h1 : (decide (t ≥ 0)) with
  | true =>
    have g1 := of_decide_eq_true h1
    try simp only [Int.ofNat_eq_natCast, ge_iff_le, gt_iff_lt, Int.not_lt, Int.not_le] at g1
    cases h2 : (decide (t < 16)) with
    | true =>
      have g2 := of_decide_eq_true h2
      try simp only [Int.ofNat_eq_natCast, ge_iff_le, gt_iff_lt, Int.not_lt, Int.not_le] at g2
      cases h3 : (decide (o ≤ 7)) with
      | true =>
        have g3 := of_decide_eq_true h3
        try simp only [Int.ofNat_eq_natCast, ge_iff_le, gt_iff_lt, Int.not_lt, Int.not_le] at g3
        cases h4 : (!decide (s ≥ last)) with
        | true =>
          have g4 : ¬ (s ≥ last) := by simpa using h4
          first | (have hE : (bgE last (undI U t) t o s) = 0 := by (simp_all [bgE]; done)) | (have hE : (bgE last (undI U t) t o s) = 0 := by (simp_all [bgE]; omega)) | (have hE : (bgE last (undI U t) t o s) = 1 := by (simp_all [bgE]; done)) | (have hE : (bgE last (undI U t) t o s) = 1 := by (simp_all [bgE]; omega)) | (have hE : (bgE last (undI U t) t o s) = 7 := by (simp_all [bgE]; done)) | (have hE : (bgE last (undI U t) t o s) = 7 := by (simp_all [bgE]; omega))
          refine ⟨2000, _, _, _, beg_1 .., (ob_cons ?_ (ob_cons ?_ (ob_cons rfl (ob_cons ?_ (ob_cons rfl (ob_cons ?_ (ob_cons rfl (ob_cons ?_ (ob_cons ?_ (ob_cons ?_ (ob_cons h4 (ob_cons h3 (ob_cons h2 (ob_cons h1 ob_nil))))))))))))))⟩
          ·
            first | rfl | (exfalso; omega) | (rw [hE]; done) | exact hE.symm | (rw [hE]; rfl) | (rw [hE]; exact hl) | (rw [hE]; exact Nat.le_refl _) | (rw [hE]; exact fun _ => rfl) | (rw [hE]; exact .inr (snoc_rows (Nat.le_refl _))) | (rw [hE]; exact .inr (snoc_rows' rfl))
          ·
            first | rfl | (exfalso; omega) | (rw [hE]; done) | exact hE.symm | (rw [hE]; rfl) | (rw [hE]; exact hl) | (rw [hE]; exact Nat.le_refl _) | (rw [hE]; exact fun _ => rfl) | (rw [hE]; exact .inr (snoc_rows (Nat.le_refl _))) | (rw [hE]; exact .inr (snoc_rows' rfl))
          ·
            first | rfl | (exfalso; omega) | (rw [hE]; done) | exact hE.symm | (rw [hE]; rfl) | (rw [hE]; exact hl) | (rw [hE]; exact Nat.le_refl _) | (rw [hE]; exact fun _ => rfl) | (rw [hE]; exact .inr (snoc_rows (Nat.le_refl _))) | (rw [hE]; exact .inr (snoc_rows' rfl))
          ·
            first | rfl | (exfalso; omega) | (rw [hE]; done) | exact hE.symm | (rw [hE]; rfl) | (rw [hE]; exact hl) | (rw [hE]; exact Nat.le_refl _) | (rw [hE]; exact fun _ => rfl) | (rw [hE]; exact .inr (snoc_rows (Nat.le_refl _))) | (rw [hE]; exact .inr (snoc_rows' rfl))
          ·
            first | exact Nat.le_refl _ | omega | (exfalso; omega) | (rw [hE]; done) | exact hE.symm | (rw [hE]; rfl) | (rw [hE]; exact hl) | (rw [hE]; exact Nat.le_refl _) | (rw [hE]; exact fun _ => rfl) | (rw [hE]; exact .inr (snoc_rows (Nat.le_refl _))) | (rw [hE]; exact .inr (snoc_rows' rfl))
          ·
            first | exact .inl ⟨rfl, rfl⟩ | (exfalso; omega) | (rw [hE]; done) | exact hE.symm | (rw [hE]; rfl) | (rw [hE]; exact hl) | (rw [hE]; exact Nat.le_refl _) | (rw [hE]; exact fun _ => rfl) | (rw [hE]; exact .inr (snoc_rows (Nat.le_refl _))) | (rw [hE]; exact .inr (snoc_rows' rfl))
          ·
            first | exact fun _ => rfl | (exfalso; omega) | (rw [hE]; done) | exact hE.symm | (rw [hE]; rfl) | (rw [hE]; exact hl) | (rw [hE]; exact Nat.le_refl _) | (rw [hE]; exact fun _ => rfl) | (rw [hE]; exact .inr (snoc_rows (Nat.le_refl _))) | (rw [hE]; exact .inr (snoc_rows' rfl))
        | false =>
          have g4 : (s ≥ last) := by simpa using h4
          cases h5 : (undI U t != -1) with
          | true =>
            first | (have hE : (bgE last (undI U t) t o s) = 0 := by (simp_all [bgE]; done)) | (have hE : (bgE last (undI U t) t o s) = 0 := by (simp_all [bgE]; omega)) | (have hE : (bgE last (undI U t) t o s) = 1 := by (simp_all [bgE]; done)) | (have hE : (bgE last (undI U t) t o s) = 1 := by (simp_all [bgE]; omega)) | (have hE : (bgE last (undI U t) t o s) = 7 := by (simp_all [bgE]; done)) | (have hE : (bgE last (undI U t) t o s) = 7 := by (simp_all [bgE]; omega))
            refine ⟨2000, _, _, _, beg_2 .., (ob_cons ?_ (ob_cons ?_ (ob_cons rfl (ob_cons ?_ (ob_cons rfl (ob_cons ?_ (ob_cons rfl (ob_cons ?_ (ob_cons ?_ (ob_cons ?_ (ob_cons h5 (ob_cons h4 (ob_cons h3 (ob_cons h2 (ob_cons h1 ob_nil)))))))))))))))⟩
            ·
              first | rfl | (exfalso; omega) | (rw [hE]; done) | exact hE.symm | (rw [hE]; rfl) | (rw [hE]; exact hl) | (rw [hE]; exact Nat.le_refl _) | (rw [hE]; exact fun _ => rfl) | (rw [hE]; exact .inr (snoc_rows (Nat.le_refl _))) | (rw [hE]; exact .inr (snoc_rows' rfl))
            ·
              first | rfl | (exfalso; omega) | (rw [hE]; done) | exact hE.symm | (rw [hE]; rfl) | (rw [hE]; exact hl) | (rw [hE]; exact Nat.le_refl _) | (rw [hE]; exact fun _ => rfl) | (rw [hE]; exact .inr (snoc_rows (Nat.le_refl _))) | (rw [hE]; exact .inr (snoc_rows' rfl))
            ·
              first | rfl | (exfalso; omega) | (rw [hE]; done) | exact hE.symm | (rw [hE]; rfl) | (rw [hE]; exact hl) | (rw [hE]; exact Nat.le_refl _) | (rw [hE]; exact fun _ => rfl) | (rw [hE]; exact .inr (snoc_rows (Nat.le_refl _))) | (rw [hE]; exact .inr (snoc_rows' rfl))
            ·
              first | rfl | (exfalso; omega) | (rw [hE]; done) | exact hE.symm | (rw [hE]; rfl) | (rw [hE]; exact hl) | (rw [hE]; exact Nat.le_refl _) | (rw [hE]; exact fun _ => rfl) | (rw [hE]; exact .inr (snoc_rows (Nat.le_refl _))) | (rw [hE]; exact .inr (snoc_rows' rfl))
            ·
              first | exact Nat.le_refl _ | omega | (exfalso; omega) | (rw [hE]; done) | exact hE.symm | (rw [hE]; rfl) | (rw [hE]; exact hl) | (rw [hE]; exact Nat.le_refl _) | (rw [hE]; exact fun _ => rfl) | (rw [hE]; exact .inr (snoc_rows (Nat.le_refl _))) | (rw [hE]; exact .inr (snoc_rows' rfl))
            ·
              first | exact .inl ⟨rfl, rfl⟩ | (exfalso; omega) | (rw [hE]; done) | exact hE.symm | (rw [hE]; rfl) | (rw [hE]; exact hl) | (rw [hE]; exact Nat.le_refl _) | (rw [hE]; exact fun _ => rfl) | (rw [hE]; exact .inr (snoc_rows (Nat.le_refl _))) | (rw [hE]; exact .inr (snoc_rows' rfl))
            ·
              first | exact fun _ => rfl | (exfalso; omega) | (rw [hE]; done) | exact hE.symm | (rw [hE]; rfl) | (rw [hE]; exact hl) | (rw [hE]; exact Nat.le_refl _) | (rw [hE]; exact fun _ => rfl) | (rw [hE]; exact .inr (snoc_rows (Nat.le_refl _))) | (rw [hE]; exact .inr (snoc_rows' rfl))
          | false =>
            cases h6 : (decide (Int.ofNat n ≥ 1048576)) with
            | true =>
              have g6 := of_decide_eq_true h6
              try simp only [Int.ofNat_eq_natCast, ge_iff_le, gt_iff_lt, Int.not_lt, Int.not_le] at g6
              first | (have hE : (bgE last (undI U t) t o s) = 0 := by (simp_all [bgE]; done)) | (have hE : (bgE last (undI U t) t o s) = 0 := by (simp_all [bgE]; omega)) | (have hE : (bgE last (undI U t) t o s) = 1 := by (simp_all [bgE]; done)) | (have hE : (bgE last (undI U t) t o s) = 1 := by (simp_all [bgE]; omega)) | (have hE : (bgE last (undI U t) t o s) = 7 := by (simp_all [bgE]; done)) | (have hE : (bgE last (undI U t) t o s) = 7 := by (simp_all [bgE]; omega))
              refine ⟨2000, _, _, _, beg_3 .., (ob_cons ?_ (ob_cons ?_ (ob_cons rfl (ob_cons ?_ (ob_cons rfl (ob_cons ?_ (ob_cons rfl (ob_cons ?_ (ob_cons ?_ (ob_cons ?_ (ob_cons h6 (ob_cons h5 (ob_cons h4 (ob_cons h3 (ob_cons h2 (ob_cons h1 ob_nil))))))))))))))))⟩
              ·
                first | rfl | (exfalso; omega) | (rw [hE]; done) | exact hE.symm | (rw [hE]; rfl) | (rw [hE]; exact hl) | (rw [hE]; exact Nat.le_refl _) | (rw [hE]; exact fun _ => rfl) | (rw [hE]; exact .inr (snoc_rows (Nat.le_refl _))) | (rw [hE]; exact .inr (snoc_rows' rfl))
              ·
                first | rfl | (exfalso; omega) | (rw [hE]; done) | exact hE.symm | (rw [hE]; rfl) | (rw [hE]; exact hl) | (rw [hE]; exact Nat.le_refl _) | (rw [hE]; exact fun _ => rfl) | (rw [hE]; exact .inr (snoc_rows (Nat.le_refl _))) | (rw [hE]; exact .inr (snoc_rows' rfl))
              ·
                first | rfl | (exfalso; omega) | (rw [hE]; done) | exact hE.symm | (rw [hE]; rfl) | (rw [hE]; exact hl) | (rw [hE]; exact Nat.le_refl _) | (rw [hE]; exact fun _ => rfl) | (rw [hE]; exact .inr (snoc_rows (Nat.le_refl _))) | (rw [hE]; exact .inr (snoc_rows' rfl))
              ·
                first | rfl | (exfalso; omega) | (rw [hE]; done) | exact hE.symm | (rw [hE]; rfl) | (rw [hE]; exact hl) | (rw [hE]; exact Nat.le_refl _) | (rw [hE]; exact fun _ => rfl) | (rw [hE]; exact .inr (snoc_rows (Nat.le_refl _))) | (rw [hE]; exact .inr (snoc_rows' rfl))
              ·
                first | exact Nat.le_refl _ | omega | (exfalso; omega) | (rw [hE]; done) | exact hE.symm | (rw [hE]; rfl) | (rw [hE]; exact hl) | (rw [hE]; exact Nat.le_refl _) | (rw [hE]; exact fun _ => rfl) | (rw [hE]; exact .inr (snoc_rows (Nat.le_refl _))) | (rw [hE]; exact .inr (snoc_rows' rfl))
              ·
                first | exact .inl ⟨rfl, rfl⟩ | (exfalso; omega) | (rw [hE]; done) | exact hE.symm | (rw [hE]; rfl) | (rw [hE]; exact hl) | (rw [hE]; exact Nat.le_refl _) | (rw [hE]; exact fun _ => rfl) | (rw [hE]; exact .inr (snoc_rows (Nat.le_refl _))) | (rw [hE]; exact .inr (snoc_rows' rfl))
              ·
                first | exact fun _ => rfl | (exfalso; omega) | (rw [hE]; done) | exact hE.symm | (rw [hE]; rfl) | (rw [hE]; exact hl) | (rw [hE]; exact Nat.le_refl _) | (rw [hE]; exact fun _ => rfl) | (rw [hE]; exact .inr (snoc_rows (Nat.le_refl _))) | (rw [hE]; exact .inr (snoc_rows' rfl))
            | false =>
              have g6 := of_decide_eq_false h6
              try simp only [Int.ofNat_eq_natCast, ge_iff_le, gt_iff_lt, Int.not_lt, Int.not_le] at g6
              first | (have hE : (bgE last (undI U t) t o s) = 0 := by (simp_all [bgE]; done)) | (have hE : (bgE last (undI U t) t o s) = 0 := by (simp_all [bgE]; omega)) | (have hE : (bgE last (undI U t) t o s) = 1 := by (simp_all [bgE]; done)) | (have hE : (bgE last (undI U t) t o s) = 1 := by (simp_all [bgE]; omega)) | (have hE : (bgE last (undI U t) t o s) = 7 := by (simp_all [bgE]; done)) | (have hE : (bgE last (undI U t) t o s) = 7 := by (simp_all [bgE]; omega))
              refine ⟨2000, _, _, _, beg_4 .., (ob_cons ?_ (ob_cons ?_ (ob_cons rfl (ob_cons ?_ (ob_cons rfl (ob_cons ?_ (ob_cons rfl (ob_cons ?_ (ob_cons ?_ (ob_cons ?_ (ob_cons ?_ (ob_cons ?_ (ob_cons h6 (ob_cons h5 (ob_cons h4 (ob_cons h3 (ob_cons h2 (ob_cons h1 ob_nil))))))))))))))))))⟩
              ·
                first | rfl | (exfalso; omega) | (rw [hE]; done) | exact hE.symm | (rw [hE]; rfl) | (rw [hE]; exact hl) | (rw [hE]; exact Nat.le_refl _) | (rw [hE]; exact fun _ => rfl) | (rw [hE]; exact .inr (snoc_rows (Nat.le_refl _))) | (rw [hE]; exact .inr (snoc_rows' rfl))
              ·
                first | rfl | (exfalso; omega) | (rw [hE]; done) | exact hE.symm | (rw [hE]; rfl) | (rw [hE]; exact hl) | (rw [hE]; exact Nat.le_refl _) | (rw [hE]; exact fun _ => rfl) | (rw [hE]; exact .inr (snoc_rows (Nat.le_refl _))) | (rw [hE]; exact .inr (snoc_rows' rfl))
              ·
                first | rfl | (exfalso; omega) | (rw [hE]; done) | exact hE.symm | (rw [hE]; rfl) | (rw [hE]; exact hl) | (rw [hE]; exact Nat.le_refl _) | (rw [hE]; exact fun _ => rfl) | (rw [hE]; exact .inr (snoc_rows (Nat.le_refl _))) | (rw [hE]; exact .inr (snoc_rows' rfl))
              ·
                first | rfl | (exfalso; omega) | (rw [hE]; done) | exact hE.symm | (rw [hE]; rfl) | (rw [hE]; exact hl) | (rw [hE]; exact Nat.le_refl _) | (rw [hE]; exact fun _ => rfl) | (rw [hE]; exact .inr (snoc_rows (Nat.le_refl _))) | (rw [hE]; exact .inr (snoc_rows' rfl))
              ·
                first | exact Nat.le_refl _ | omega | (exfalso; omega) | (rw [hE]; done) | exact hE.symm | (rw [hE]; rfl) | (rw [hE]; exact hl) | (rw [hE]; exact Nat.le_refl _) | (rw [hE]; exact fun _ => rfl) | (rw [hE]; exact .inr (snoc_rows (Nat.le_refl _))) | (rw [hE]; exact .inr (snoc_rows' rfl))
              ·
                first | exact .inl ⟨rfl, rfl⟩ | (exfalso; omega) | (rw [hE]; done) | exact hE.symm | (rw [hE]; rfl) | (rw [hE]; exact hl) | (rw [hE]; exact Nat.le_refl _) | (rw [hE]; exact fun _ => rfl) | (rw [hE]; exact .inr (snoc_rows (Nat.le_refl _))) | (rw [hE]; exact .inr (snoc_rows' rfl))
              ·
                first | exact fun _ => rfl | (exfalso; omega) | (rw [hE]; done) | exact hE.symm | (rw [hE]; rfl) | (rw [hE]; exact hl) | (rw [hE]; exact Nat.le_refl _) | (rw [hE]; exact fun _ => rfl) | (rw [hE]; exact .inr (snoc_rows (Nat.le_refl _))) | (rw [hE]; exact .inr (snoc_rows' rfl))
              ·
                first | (apply Nat.ble_eq_true_of_le; omega) | (simp [Nat.blt_eq]; omega) | (exfalso; omega) | (rw [hE]; done) | exact hE.symm | (rw [hE]; rfl) | (rw [hE]; exact hl) | (rw [hE]; exact Nat.le_refl _) | (rw [hE]; exact fun _ => rfl) | (rw [hE]; exact .inr (snoc_rows (Nat.le_refl _))) | (rw [hE]; exact .inr (snoc_rows' rfl))
              ·
                first | (apply Nat.ble_eq_true_of_le; omega) | (simp [Nat.blt_eq]; omega) | (exfalso; omega) | (rw [hE]; done) | exact hE.symm | (rw [hE]; rfl) | (rw [hE]; exact hl) | (rw [hE]; exact Nat.le_refl _) | (rw [hE]; exact fun _ => rfl) | (rw [hE]; exact .inr (snoc_rows (Nat.le_refl _))) | (rw [hE]; exact .inr (snoc_rows' rfl))
      | false =>
        have g3 := of_decide_eq_false h3
        try simp only [Int.ofNat_eq_natCast, ge_iff_le, gt_iff_lt, Int.not_lt, Int.not_le] at g3
        first | (have hE : (bgE last (undI U t) t o s) = 0 := by (simp_all [bgE]; done)) | (have hE : (bgE last (undI U t) t o s) = 0 := by (simp_all [bgE]; omega)) | (have hE : (bgE last (undI U t) t o s) = 1 := by (simp_all [bgE]; done)) | (have hE : (bgE last (undI U t) t o s) = 1 := by (simp_all [bgE]; omega)) | (have hE : (bgE last (undI U t) t o s) = 7 := by (simp_all [bgE]; done)) | (have hE : (bgE last (undI U t) t o s) = 7 := by (simp_all [bgE]; omega))
        refine ⟨2000, _, _, _, beg_5 .., (ob_cons ?_ (ob_cons ?_ (ob_cons rfl (ob_cons ?_ (ob_cons rfl (ob_cons ?_ (ob_cons rfl (ob_cons ?_ (ob_cons ?_ (ob_cons ?_ (ob_cons h3 (ob_cons h2 (ob_cons h1 ob_nil)))))))))))))⟩
        ·
          first | rfl | (exfalso; omega) | (rw [hE]; done) | exact hE.symm | (rw [hE]; rfl) | (rw [hE]; exact hl) | (rw [hE]; exact Nat.le_refl _) | (rw [hE]; exact fun _ => rfl) | (rw [hE]; exact .inr (snoc_rows (Nat.le_refl _))) | (rw [hE]; exact .inr (snoc_rows' rfl))
        ·
          first | rfl | (exfalso; omega) | (rw [hE]; done) | exact hE.symm | (rw [hE]; rfl) | (rw [hE]; exact hl) | (rw [hE]; exact Nat.le_refl _) | (rw [hE]; exact fun _ => rfl) | (rw [hE]; exact .inr (snoc_rows (Nat.le_refl _))) | (rw [hE]; exact .inr (snoc_rows' rfl))
        ·
          first | rfl | (exfalso; omega) | (rw [hE]; done) | exact hE.symm | (rw [hE]; rfl) | (rw [hE]; exact hl) | (rw [hE]; exact Nat.le_refl _) | (rw [hE]; exact fun _ => rfl) | (rw [hE]; exact .inr (snoc_rows (Nat.le_refl _))) | (rw [hE]; exact .inr (snoc_rows' rfl))
        ·
          first | rfl | (exfalso; omega) | (rw [hE]; done) | exact hE.symm | (rw [hE]; rfl) | (rw [hE]; exact hl) | (rw [hE]; exact Nat.le_refl _) | (rw [hE]; exact fun _ => rfl) | (rw [hE]; exact .inr (snoc_rows (Nat.le_refl _))) | (rw [hE]; exact .inr (snoc_rows' rfl))
        ·
          first | exact Nat.le_refl _ | omega | (exfalso; omega) | (rw [hE]; done) | exact hE.symm | (rw [hE]; rfl) | (rw [hE]; exact hl) | (rw [hE]; exact Nat.le_refl _) | (rw [hE]; exact fun _ => rfl) | (rw [hE]; exact .inr (snoc_rows (Nat.le_refl _))) | (rw [hE]; exact .inr (snoc_rows' rfl))
        ·
          first | exact .inl ⟨rfl, rfl⟩ | (exfalso; omega) | (rw [hE]; done) | exact hE.symm | (rw [hE]; rfl) | (rw [hE]; exact hl) | (rw [hE]; exact Nat.le_refl _) | (rw [hE]; exact fun _ => rfl) | (rw [hE]; exact .inr (snoc_rows (Nat.le_refl _))) | (rw [hE]; exact .inr (snoc_rows' rfl))
        ·
          first | exact fun _ => rfl | (exfalso; omega) | (rw [hE]; done) | exact hE.symm | (rw [hE]; rfl) | (rw [hE]; exact hl) | (rw [hE]; exact Nat.le_refl _) | (rw [hE]; exact fun _ => rfl) | (rw [hE]; exact .inr (snoc_rows (Nat.le_refl _))) | (rw [hE]; exact .inr (snoc_rows' rfl))
    | false =>
      have g2 := of_decide_eq_false h2
      try simp only [Int.ofNat_eq_natCast, ge_iff_le, gt_iff_lt, Int.not_lt, Int.not_le] at g2
      first | (have hE : (bgE last (undI U t) t o s) = 0 := by (simp_all [bgE]; done)) | (have hE : (bgE last (undI U t) t o s) = 0 := by (simp_all [bgE]; omega)) | (have hE : (bgE last (undI U t) t o s) = 1 := by (simp_all [bgE]; done)) | (have hE : (bgE last (undI U t) t o s) = 1 := by (simp_all [bgE]; omega)) | (have hE : (bgE last (undI U t) t o s) = 7 := by (simp_all [bgE]; done)) | (have hE : (bgE last (undI U t) t o s) = 7 := by (simp_all [bgE]; omega))
      refine ⟨2000, _, _, _, beg_6 .., (ob_cons ?_ (ob_cons ?_ (ob_cons rfl (ob_cons ?_ (ob_cons rfl (ob_cons ?_ (ob_cons rfl (ob_cons ?_ (ob_cons ?_ (ob_cons ?_ (ob_cons h2 (ob_cons h1 ob_nil))))))))))))⟩
      ·
        first | rfl | (exfalso; omega) | (rw [hE]; done) | exact hE.symm | (rw [hE]; rfl) | (rw [hE]; exact hl) | (rw [hE]; exact Nat.le_refl _) | (rw [hE]; exact fun _ => rfl) | (rw [hE]; exact .inr (snoc_rows (Nat.le_refl _))) | (rw [hE]; exact .inr (snoc_rows' rfl))
      ·
        first | rfl | (exfalso; omega) | (rw [hE]; done) | exact hE.symm | (rw [hE]; rfl) | (rw [hE]; exact hl) | (rw [hE]; exact Nat.le_refl _) | (rw [hE]; exact fun _ => rfl) | (rw [hE]; exact .inr (snoc_rows (Nat.le_refl _))) | (rw [hE]; exact .inr (snoc_rows' rfl))
      ·
        first | rfl | (exfalso; omega) | (rw [hE]; done) | exact hE.symm | (rw [hE]; rfl) | (rw [hE]; exact hl) | (rw [hE]; exact Nat.le_refl _) | (rw [hE]; exact fun _ => rfl) | (rw [hE]; exact .inr (snoc_rows (Nat.le_refl _))) | (rw [hE]; exact .inr (snoc_rows' rfl))
      ·
        first | rfl | (exfalso; omega) | (rw [hE]; done) | exact hE.symm | (rw [hE]; rfl) | (rw [hE]; exact hl) | (rw [hE]; exact Nat.le_refl _) | (rw [hE]; exact fun _ => rfl) | (rw [hE]; exact .inr (snoc_rows (Nat.le_refl _))) | (rw [hE]; exact .inr (snoc_rows' rfl))
      ·
        first | exact Nat.le_refl _ | omega | (exfalso; omega) | (rw [hE]; done) | exact hE.symm | (rw [hE]; rfl) | (rw [hE]; exact hl) | (rw [hE]; exact Nat.le_refl _) | (rw [hE]; exact fun _ => rfl) | (rw [hE]; exact .inr (snoc_rows (Nat.le_refl _))) | (rw [hE]; exact .inr (snoc_rows' rfl))
      ·
        first | exact .inl ⟨rfl, rfl⟩ | (exfalso; omega) | (rw [hE]; done) | exact hE.symm | (rw [hE]; rfl) | (rw [hE]; exact hl) | (rw [hE]; exact Nat.le_refl _) | (rw [hE]; exact fun _ => rfl) | (rw [hE]; exact .inr (snoc_rows (Nat.le_refl _))) | (rw [hE]; exact .inr (snoc_rows' rfl))
      ·
        first | exact fun _ => rfl | (exfalso; omega) | (rw [hE]; done) | exact hE.symm | (rw [hE]; rfl) | (rw [hE]; exact hl) | (rw [hE]; exact Nat.le_refl _) | (rw [hE]; exact fun _ => rfl) | (rw [hE]; exact .inr (snoc_rows (Nat.le_refl _))) | (rw [hE]; exact .inr (snoc_rows' rfl))
  | false =>
    have g1 := of_decide_eq_false h1
    try simp only [Int.ofNat_eq_natCast, ge_iff_le, gt_iff_lt, Int.not_lt, Int.not_le] at g1
    first | (have hE : (bgE last (undI U t) t o s) = 0 := by (simp_all [bgE]; done)) | (have hE : (bgE last (undI U t) t o s) = 0 := by (simp_all [bgE]; omega)) | (have hE : (bgE last (undI U t) t o s) = 1 := by (simp_all [bgE]; done)) | (have hE : (bgE last (undI U t) t o s) = 1 := by (simp_all [bgE]; omega)) | (have hE : (bgE last (undI U t) t o s) = 7 := by (simp_all [bgE]; done)) | (have hE : (bgE last (undI U t) t o s) = 7 := by (simp_all [bgE]; omega))
    refine ⟨2000, _, _, _, beg_7 .., (ob_cons ?_ (ob_cons ?_ (ob_cons rfl (ob_cons ?_ (ob_cons rfl (ob_cons ?_ (ob_cons rfl (ob_cons ?_ (ob_cons ?_ (ob_cons ?_ (ob_cons h1 ob_nil)))))))))))⟩
    ·
      first | rfl | (exfalso; omega) | (rw [hE]; done) | exact hE.symm | (rw [hE]; rfl) | (rw [hE]; exact hl) | (rw [hE]; exact Nat.le_refl _) | (rw [hE]; exact fun _ => rfl) | (rw [hE]; exact .inr (snoc_rows (Nat.le_refl _))) | (rw [hE]; exact .inr (snoc_rows' rfl))
    ·
      first | rfl | (exfalso; omega) | (rw [hE]; done) | exact hE.symm | (rw [hE]; rfl) | (rw [hE]; exact hl) | (rw [hE]; exact Nat.le_refl _) | (rw [hE]; exact fun _ => rfl) | (rw [hE]; exact .inr (snoc_rows (Nat.le_refl _))) | (rw [hE]; exact .inr (snoc_rows' rfl))
    ·
      first | rfl | (exfalso; omega) | (rw [hE]; done) | exact hE.symm | (rw [hE]; rfl) | (rw [hE]; exact hl) | (rw [hE]; exact Nat.le_refl _) | (rw [hE]; exact fun _ => rfl) | (rw [hE]; exact .inr (snoc_rows (Nat.le_refl _))) | (rw [hE]; exact .inr (snoc_rows' rfl))
    ·
      first | rfl | (exfalso; omega) | (rw [hE]; done) | exact hE.symm | (rw [hE]; rfl) | (rw [hE]; exact hl) | (rw [hE]; exact Nat.le_refl _) | (rw [hE]; exact fun _ => rfl) | (rw [hE]; exact .inr (snoc_rows (Nat.le_refl _))) | (rw [hE]; exact .inr (snoc_rows' rfl))
    ·
      first | exact Nat.le_refl _ | omega | (exfalso; omega) | (rw [hE]; done) | exact hE.symm | (rw [hE]; rfl) | (rw [hE]; exact hl) | (rw [hE]; exact Nat.le_refl _) | (rw [hE]; exact fun _ => rfl) | (rw [hE]; exact .inr (snoc_rows (Nat.le_refl _))) | (rw [hE]; exact .inr (snoc_rows' rfl))
    ·
      first | exact .inl ⟨rfl, rfl⟩ | (exfalso; omega) | (rw [hE]; done) | exact hE.symm | (rw [hE]; rfl) | (rw [hE]; exact hl) | (rw [hE]; exact Nat.le_refl _) | (rw [hE]; exact fun _ => rfl) | (rw [hE]; exact .inr (snoc_rows (Nat.le_refl _))) | (rw [hE]; exact .inr (snoc_rows' rfl))
    ·
      first | exact fun _ => rfl | (exfalso; omega) | (rw [hE]; done) | exact hE.symm | (rw [hE]; rfl) | (rw [hE]; exact hl) | (rw [hE]; exact Nat.le_refl _) | (rw [hE]; exact fun _ => rfl) | (rw [hE]; exact .inr (snoc_rows (Nat.le_refl _))) | (rw [hE]; exact .inr (snoc_rows' rfl))
noncomputable def begSpec : LSpec := fun la lh => match la, lh with
  | [.ptr z1 z2 z3, .sym .i64 t, .sym .u8 o, .sym .u64 ky, .sym .u64 va, .sym .i64 s], [(z4, .cells z5 [.ss z6 z7 z8 n none, .map z9, .sym .i64 last]), (z10, .arr z11 z12 false l f), (z13, .map z14 U)] =>
    match Nat.beq z1 1 && (Nat.beq z2 0 && (Nat.beq z3 0 && (Nat.beq z4 1 && (Nat.beq z5 3 && (Nat.beq z6 9 && (Nat.beq z7 2 && (Nat.beq z8 0 && (Nat.beq z9 3 && (Nat.beq z10 2 && (Nat.beq z11 9 && (shBeq z12 cSh && (Nat.beq z13 3 && (Nat.beq z14 76))))))))))))) with
    | true => some (begR t o ky va s n l f U last)
    | false => none
  | _, _ => none
theorem begSpec_ok (la : List AV) (lh : List (Nat × AO)) (R : LR) (h : begSpec la lh = some R) : LocOk Try.prog 25 la lh R := by
  unfold begSpec at h
  split at h
  · rename_i z1 z2 z3 t o ky va s z4 z5 z6 z7 z8 n z9 last z10 z11 z12 l f z13 z14 U
    split at h
    · rename_i hb
      simp only [Bool.and_eq_true] at hb
      obtain ⟨e1, e2, e3, e4, e5, e6, e7, e8, e9, e10, e11, e12, e13, e14⟩ := hb
      have e1 := Nat.eq_of_beq_eq_true e1; subst e1
      have e2 := Nat.eq_of_beq_eq_true e2; subst e2
      have e3 := Nat.eq_of_beq_eq_true e3; subst e3
      have e4 := Nat.eq_of_beq_eq_true e4; subst e4
      have e5 := Nat.eq_of_beq_eq_true e5; subst e5
      have e6 := Nat.eq_of_beq_eq_true e6; subst e6
      have e7 := Nat.eq_of_beq_eq_true e7; subst e7
      have e8 := Nat.eq_of_beq_eq_true e8; subst e8
      have e9 := Nat.eq_of_beq_eq_true e9; subst e9
      have e10 := Nat.eq_of_beq_eq_true e10; subst e10
      have e11 := Nat.eq_of_beq_eq_true e11; subst e11
      have e12 := shBeq_eq e12; subst e12
      have e13 := Nat.eq_of_beq_eq_true e13; subst e13
      have e14 := Nat.eq_of_beq_eq_true e14; subst e14
      cases h
      exact beg_loc t o ky va s n l f U last
    · cases h
  · cases h

theorem pnt_1 (c an va s : Int) (n l : Nat) (f : Nat → Nat → AV) (U : List Int → Option Int) (last : Int) : callB EH2 2000 27 [AV.ptr 1 0 0, AV.sym IntKind.i64 c, AV.sym IntKind.u8 an, AV.sym IntKind.u64 va, AV.sym IntKind.i64 s] (pntH c an va s n l f U last) (pntR c an va s n l f U last) [] [Hint.b true, Hint.b true] =
 some ([1 = ptE n (fCl f) c an s,
 (0 : Nat) = 0,
 n = n,
 (none : Option Nat) = none,
 last = onOk (ptE n (fCl f) c an s) (if s > last then s else last) last,
 false = false,
 n ≤ l,
 cF (ptC (ptE n (fCl f) c an s) (fCl f) c an va s) = f ∧ plainSh cSh = true ∨ ∀ (i : Nat), i < n → rowOb cSh 0 (f i) (cF (ptC (ptE n (fCl f) c an s) (fCl f) c an va s) i),
 ∀ (k : List Int), U k = U k,
 decide (c < 0) = true,
 (an == 1) = true]) := by kernel_rfl
theorem pnt_2 (c an va s : Int) (n l : Nat) (f : Nat → Nat → AV) (U : List Int → Option Int) (last : Int) : callB EH2 2000 27 [AV.ptr 1 0 0, AV.sym IntKind.i64 c, AV.sym IntKind.u8 an, AV.sym IntKind.u64 va, AV.sym IntKind.i64 s] (pntH c an va s n l f U last) (pntR c an va s n l f U last) [] [Hint.b true, Hint.b false, Hint.b true] =
 some ([1 = ptE n (fCl f) c an s,
 (0 : Nat) = 0,
 n = n,
 (none : Option Nat) = none,
 last = onOk (ptE n (fCl f) c an s) (if s > last then s else last) last,
 false = false,
 n ≤ l,
 cF (ptC (ptE n (fCl f) c an s) (fCl f) c an va s) = f ∧ plainSh cSh = true ∨ ∀ (i : Nat), i < n → rowOb cSh 0 (f i) (cF (ptC (ptE n (fCl f) c an s) (fCl f) c an va s) i),
 ∀ (k : List Int), U k = U k,
 decide (c ≥ Int.ofNat n) = true,
 decide (c < 0) = false,
 (an == 1) = true]) := by kernel_rfl
theorem pnt_3 (c an va s : Int) (n l : Nat) (f : Nat → Nat → AV) (U : List Int → Option Int) (last : Int) : callB EH2 2000 27 [AV.ptr 1 0 0, AV.sym IntKind.i64 c, AV.sym IntKind.u8 an, AV.sym IntKind.u64 va, AV.sym IntKind.i64 s] (pntH c an va s n l f U last) (pntR c an va s n l f U last) [] [Hint.b true, Hint.b false, Hint.b false, Hint.node [(27, [Hint.b true])]] =
 some ([1 = ptE n (fCl f) c an s,
 (0 : Nat) = 0,
 n = n,
 (none : Option Nat) = none,
 last = onOk (ptE n (fCl f) c an s) (if s > last then s else last) last,
 false = false,
 n ≤ l,
 cF (ptC (ptE n (fCl f) c an s) (fCl f) c an va s) = f ∧ plainSh cSh = true ∨ ∀ (i : Nat), i < n → rowOb cSh 0 (f i) (cF (ptC (ptE n (fCl f) c an s) (fCl f) c an va s) i),
 ∀ (k : List Int), U k = U k,
 decide (s < avInt (f (0 + c.toNat) 6)) = true,
 (0 + c.toNat).blt l = true,
 (c.toNat.blt n && decide (0 ≤ c)) = true,
 (0 + c.toNat).blt l = true,
 (c.toNat.blt n && decide (0 ≤ c)) = true,
 decide (c ≥ Int.ofNat n) = false,
 decide (c < 0) = false,
 (an == 1) = true]) := by kernel_rfl
theorem pnt_4 (c an va s : Int) (n l : Nat) (f : Nat → Nat → AV) (U : List Int → Option Int) (last : Int) : callB EH2 2000 27 [AV.ptr 1 0 0, AV.sym IntKind.i64 c, AV.sym IntKind.u8 an, AV.sym IntKind.u64 va, AV.sym IntKind.i64 s] (pntH c an va s n l f U last) (pntR c an va s n l f U last) [] [Hint.b true, Hint.b false, Hint.b false, Hint.node [(27, [Hint.b false, Hint.b true])]] =
 some ([4 = ptE n (fCl f) c an s,
 (0 : Nat) = 0,
 n = n,
 (none : Option Nat) = none,
 last = onOk (ptE n (fCl f) c an s) (if s > last then s else last) last,
 false = false,
 n ≤ l,
 cF (ptC (ptE n (fCl f) c an s) (fCl f) c an va s) = f ∧ plainSh cSh = true ∨ ∀ (i : Nat), i < n → rowOb cSh 0 (f i) (cF (ptC (ptE n (fCl f) c an s) (fCl f) c an va s) i),
 ∀ (k : List Int), U k = U k,
 (avInt (f (0 + c.toNat) 8) != -1) = true,
 decide (s < avInt (f (0 + c.toNat) 6)) = false,
 (0 + c.toNat).blt l = true,
 (c.toNat.blt n && decide (0 ≤ c)) = true,
 (0 + c.toNat).blt l = true,
 (c.toNat.blt n && decide (0 ≤ c)) = true,
 decide (c ≥ Int.ofNat n) = false,
 decide (c < 0) = false,
 (an == 1) = true]) := by kernel_rfl
theorem pnt_5 (c an va s : Int) (n l : Nat) (f : Nat → Nat → AV) (U : List Int → Option Int) (last : Int) : callB EH2 2000 27 [AV.ptr 1 0 0, AV.sym IntKind.i64 c, AV.sym IntKind.u8 an, AV.sym IntKind.u64 va, AV.sym IntKind.i64 s] (pntH c an va s n l f U last) (pntR c an va s n l f U last) [] [Hint.b true, Hint.b false, Hint.b false, Hint.node [(27, [Hint.b false, Hint.b false])]] =
 some ([0 = ptE n (fCl f) c an s,
 (0 : Nat) = 0,
 n = n,
 (none : Option Nat) = none,
 (if s > last then s else last) = onOk (ptE n (fCl f) c an s) (if s > last then s else last) last,
 false = false,
 n ≤ l,
 cF (ptC (ptE n (fCl f) c an s) (fCl f) c an va s) = upd (upd (upd f (0 + c.toNat) 4 (AV.sym IntKind.u8 an).cells) (0 + c.toNat) 5 (AV.sym IntKind.u64 va).cells) (0 + c.toNat) 7 (AV.sym IntKind.i64 s).cells ∧ plainSh cSh = true ∨ ∀ (i : Nat), i < n → rowOb cSh 0 (upd (upd (upd f (0 + c.toNat) 4 (AV.sym IntKind.u8 an).cells) (0 + c.toNat) 5 (AV.sym IntKind.u64 va).cells) (0 + c.toNat) 7 (AV.sym IntKind.i64 s).cells i) (cF (ptC (ptE n (fCl f) c an s) (fCl f) c an va s) i),
 ∀ (k : List Int), U k = U k,
 (0 + c.toNat).blt l = true,
 (0 + c.toNat).blt l = true,
 (0 + c.toNat).blt l = true,
 (c.toNat.blt n && decide (0 ≤ c)) = true,
 (avInt (f (0 + c.toNat) 8) != -1) = false,
 decide (s < avInt (f (0 + c.toNat) 6)) = false,
 (0 + c.toNat).blt l = true,
 (c.toNat.blt n && decide (0 ≤ c)) = true,
 (0 + c.toNat).blt l = true,
 (c.toNat.blt n && decide (0 ≤ c)) = true,
 decide (c ≥ Int.ofNat n) = false,
 decide (c < 0) = false,
 (an == 1) = true]) := by kernel_rfl
theorem pnt_6 (c an va s : Int) (n l : Nat) (f : Nat → Nat → AV) (U : List Int → Option Int) (last : Int) : callB EH2 2000 27 [AV.ptr 1 0 0, AV.sym IntKind.i64 c, AV.sym IntKind.u8 an, AV.sym IntKind.u64 va, AV.sym IntKind.i64 s] (pntH c an va s n l f U last) (pntR c an va s n l f U last) [] [Hint.b false, Hint.b true] =
 some ([1 = ptE n (fCl f) c an s,
 (0 : Nat) = 0,
 n = n,
 (none : Option Nat) = none,
 last = onOk (ptE n (fCl f) c an s) (if s > last then s else last) last,
 false = false,
 n ≤ l,
 cF (ptC (ptE n (fCl f) c an s) (fCl f) c an va s) = f ∧ plainSh cSh = true ∨ ∀ (i : Nat), i < n → rowOb cSh 0 (f i) (cF (ptC (ptE n (fCl f) c an s) (fCl f) c an va s) i),
 ∀ (k : List Int), U k = U k,
 decide (c < 0) = true,
 (an == 1) = false]) := by kernel_rfl
theorem pnt_7 (c an va s : Int) (n l : Nat) (f : Nat → Nat → AV) (U : List Int → Option Int) (last : Int) : callB EH2 2000 27 [AV.ptr 1 0 0, AV.sym IntKind.i64 c, AV.sym IntKind.u8 an, AV.sym IntKind.u64 va, AV.sym IntKind.i64 s] (pntH c an va s n l f U last) (pntR c an va s n l f U last) [] [Hint.b false, Hint.b false, Hint.b true] =
 some ([1 = ptE n (fCl f) c an s,
 (0 : Nat) = 0,
 n = n,
 (none : Option Nat) = none,
 last = onOk (ptE n (fCl f) c an s) (if s > last then s else last) last,
 false = false,
 n ≤ l,
 cF (ptC (ptE n (fCl f) c an s) (fCl f) c an va s) = f ∧ plainSh cSh = true ∨ ∀ (i : Nat), i < n → rowOb cSh 0 (f i) (cF (ptC (ptE n (fCl f) c an s) (fCl f) c an va s) i),
 ∀ (k : List Int), U k = U k,
 decide (c ≥ Int.ofNat n) = true,
 decide (c < 0) = false,
 (an == 1) = false]) := by kernel_rfl
theorem pnt_8 (c an va s : Int) (n l : Nat) (f : Nat → Nat → AV) (U : List Int → Option Int) (last : Int) : callB EH2 2000 27 [AV.ptr 1 0 0, AV.sym IntKind.i64 c, AV.sym IntKind.u8 an, AV.sym IntKind.u64 va, AV.sym IntKind.i64 s] (pntH c an va s n l f U last) (pntR c an va s n l f U last) [] [Hint.b false, Hint.b false, Hint.b false, Hint.node [(2, [Hint.b true])]] =
 some ([1 = ptE n (fCl f) c an s,
 (0 : Nat) = 0,
 n = n,
 (none : Option Nat) = none,
 last = onOk (ptE n (fCl f) c an s) (if s > last then s else last) last,
 false = false,
 n ≤ l,
 cF (ptC (ptE n (fCl f) c an s) (fCl f) c an va s) = f ∧ plainSh cSh = true ∨ ∀ (i : Nat), i < n → rowOb cSh 0 (f i) (cF (ptC (ptE n (fCl f) c an s) (fCl f) c an va s) i),
 ∀ (k : List Int), U k = U k,
 (0 + c.toNat).blt l = true,
 (c.toNat.blt n && decide (0 ≤ c)) = true,
 (!an == 2) = true,
 decide (c ≥ Int.ofNat n) = false,
 decide (c < 0) = false,
 (an == 1) = false]) := by kernel_rfl
theorem pnt_9 (c an va s : Int) (n l : Nat) (f : Nat → Nat → AV) (U : List Int → Option Int) (last : Int) : callB EH2 2000 27 [AV.ptr 1 0 0, AV.sym IntKind.i64 c, AV.sym IntKind.u8 an, AV.sym IntKind.u64 va, AV.sym IntKind.i64 s] (pntH c an va s n l f U last) (pntR c an va s n l f U last) [] [Hint.b false, Hint.b false, Hint.b false, Hint.node [(2, [Hint.b false]), (27, [Hint.b true])]] =
 some ([1 = ptE n (fCl f) c an s,
 (0 : Nat) = 0,
 n = n,
 (none : Option Nat) = none,
 last = onOk (ptE n (fCl f) c an s) (if s > last then s else last) last,
 false = false,
 n ≤ l,
 cF (ptC (ptE n (fCl f) c an s) (fCl f) c an va s) = f ∧ plainSh cSh = true ∨ ∀ (i : Nat), i < n → rowOb cSh 0 (f i) (cF (ptC (ptE n (fCl f) c an s) (fCl f) c an va s) i),
 ∀ (k : List Int), U k = U k,
 decide (s < avInt (f (0 + c.toNat) 6)) = true,
 (0 + c.toNat).blt l = true,
 (c.toNat.blt n && decide (0 ≤ c)) = true,
 (0 + c.toNat).blt l = true,
 (c.toNat.blt n && decide (0 ≤ c)) = true,
 (!an == 2) = false,
 decide (c ≥ Int.ofNat n) = false,
 decide (c < 0) = false,
 (an == 1) = false]) := by kernel_rfl
theorem pnt_10 (c an va s : Int) (n l : Nat) (f : Nat → Nat → AV) (U : List Int → Option Int) (last : Int) : callB EH2 2000 27 [AV.ptr 1 0 0, AV.sym IntKind.i64 c, AV.sym IntKind.u8 an, AV.sym IntKind.u64 va, AV.sym IntKind.i64 s] (pntH c an va s n l f U last) (pntR c an va s n l f U last) [] [Hint.b false, Hint.b false, Hint.b false, Hint.node [(2, [Hint.b false]), (27, [Hint.b false, Hint.b true])]] =
 some ([4 = ptE n (fCl f) c an s,
 (0 : Nat) = 0,
 n = n,
 (none : Option Nat) = none,
 last = onOk (ptE n (fCl f) c an s) (if s > last then s else last) last,
 false = false,
 n ≤ l,
 cF (ptC (ptE n (fCl f) c an s) (fCl f) c an va s) = f ∧ plainSh cSh = true ∨ ∀ (i : Nat), i < n → rowOb cSh 0 (f i) (cF (ptC (ptE n (fCl f) c an s) (fCl f) c an va s) i),
 ∀ (k : List Int), U k = U k,
 (avInt (f (0 + c.toNat) 8) != -1) = true,
 decide (s < avInt (f (0 + c.toNat) 6)) = false,
 (0 + c.toNat).blt l = true,
 (c.toNat.blt n && decide (0 ≤ c)) = true,
 (0 + c.toNat).blt l = true,
 (c.toNat.blt n && decide (0 ≤ c)) = true,
 (!an == 2) = false,
 decide (c ≥ Int.ofNat n) = false,
 decide (c < 0) = false,
 (an == 1) = false]) := by kernel_rfl
theorem pnt_11 (c an va s : Int) (n l : Nat) (f : Nat → Nat → AV) (U : List Int → Option Int) (last : Int) : callB EH2 2000 27 [AV.ptr 1 0 0, AV.sym IntKind.i64 c, AV.sym IntKind.u8 an, AV.sym IntKind.u64 va, AV.sym IntKind.i64 s] (pntH c an va s n l f U last) (pntR c an va s n l f U last) [] [Hint.b false, Hint.b false, Hint.b false, Hint.node [(2, [Hint.b false]), (27, [Hint.b false, Hint.b false])]] =
 some ([0 = ptE n (fCl f) c an s,
 (0 : Nat) = 0,
 n = n,
 (none : Option Nat) = none,
 (if s > last then s else last) = onOk (ptE n (fCl f) c an s) (if s > last then s else last) last,
 false = false,
 n ≤ l,
 cF (ptC (ptE n (fCl f) c an s) (fCl f) c an va s) = upd (upd (upd f (0 + c.toNat) 4 (AV.sym IntKind.u8 an).cells) (0 + c.toNat) 5 (AV.sym IntKind.u64 va).cells) (0 + c.toNat) 7 (AV.sym IntKind.i64 s).cells ∧ plainSh cSh = true ∨ ∀ (i : Nat), i < n → rowOb cSh 0 (upd (upd (upd f (0 + c.toNat) 4 (AV.sym IntKind.u8 an).cells) (0 + c.toNat) 5 (AV.sym IntKind.u64 va).cells) (0 + c.toNat) 7 (AV.sym IntKind.i64 s).cells i) (cF (ptC (ptE n (fCl f) c an s) (fCl f) c an va s) i),
 ∀ (k : List Int), U k = U k,
 (0 + c.toNat).blt l = true,
 (0 + c.toNat).blt l = true,
 (0 + c.toNat).blt l = true,
 (c.toNat.blt n && decide (0 ≤ c)) = true,
 (avInt (f (0 + c.toNat) 8) != -1) = false,
 decide (s < avInt (f (0 + c.toNat) 6)) = false,
 (0 + c.toNat).blt l = true,
 (c.toNat.blt n && decide (0 ≤ c)) = true,
 (0 + c.toNat).blt l = true,
 (c.toNat.blt n && decide (0 ≤ c)) = true,
 (!an == 2) = false,
 decide (c ≥ Int.ofNat n) = false,
 decide (c < 0) = false,
 (an == 1) = false]) := by kernel_rfl
theorem pnt_loc (c an va s : Int) (n l : Nat) (f : Nat → Nat → AV) (U : List Int → Option Int) (last : Int) : LocOk Try.prog 27 [.ptr 1 0 0, .sym .i64 c, .sym .u8 an, .sym .u64 va, .sym .i64 s] (pntH c an va s n l f U last) (pntR c an va s n l f U last) := by
  refine loc_of_call EH2_ok (fun hp => ?_)
  have hl : n ≤ l := hp _ (List.mem_cons_self ..)
  have hm : n ≤ 100000 := hp _ (List.mem_cons_of_mem _ (List.mem_cons_self ..))
  clear hp
  cases h1 : (an == 1) with
  | true =>
    cases h2 : (decide (c < 0)) with
    | true =>
      have g2 := of_decide_eq_true h2
      try simp only [Int.ofNat_eq_natCast, ge_iff_le, gt_iff_lt, Int.not_lt, Int.not_le] at g2
      first | (have hE : (ptE n (fCl f) c an s) = 0 := by (simp_all [ptE, fCl, clOf]; done)) | (have hE : (ptE n (fCl f) c an s) = 0 := by (simp_all [ptE, fCl, clOf]; omega)) | (have hE : (ptE n (fCl f) c an s) = 1 := by (simp_all [ptE, fCl, clOf]; done)) | (have hE : (ptE n (fCl f) c an s) = 1 := by (simp_all [ptE, fCl, clOf]; omega)) | (have hE : (ptE n (fCl f) c an s) = 4 := by (simp_all [ptE, fCl, clOf]; done)) | (have hE : (ptE n (fCl f) c an s) = 4 := by (simp_all [ptE, fCl, clOf]; omega))
      refine ⟨2000, _, _, _, pnt_1 .., (ob_cons ?_ (ob_cons rfl (ob_cons rfl (ob_cons rfl (ob_cons ?_ (ob_cons rfl (ob_cons ?_ (ob_cons ?_ (ob_cons (fun _ => rfl) (ob_cons h2 (ob_cons h1 ob_nil)))))))))))⟩
      ·
        first | rfl | (exfalso; omega) | (rw [hE]; done) | exact hE.symm | (rw [hE]; rfl) | (rw [hE]; exact hl) | (rw [hE]; exact Nat.le_refl _) | (rw [hE]; exact fun _ => rfl) | (rw [hE]; refine .inr (fun i hi => row_c ?_); simp [ptC, fCl, hE]; done) | (rw [hE]; refine .inr (fun i hi => row_c ?_); by_cases q : i = c.toNat <;> simp [ptC, fCl, upd, clOf, nth, AV.cells, avI_s, avI_i, ofVal, cellOf, q]; done)
      ·
        first | rfl | (exfalso; omega) | (rw [hE]; done) | exact hE.symm | (rw [hE]; rfl) | (rw [hE]; exact hl) | (rw [hE]; exact Nat.le_refl _) | (rw [hE]; exact fun _ => rfl) | (rw [hE]; refine .inr (fun i hi => row_c ?_); simp [ptC, fCl, hE]; done) | (rw [hE]; refine .inr (fun i hi => row_c ?_); by_cases q : i = c.toNat <;> simp [ptC, fCl, upd, clOf, nth, AV.cells, avI_s, avI_i, ofVal, cellOf, q]; done)
      ·
        first | exact Nat.le_refl _ | omega | (exfalso; omega) | (rw [hE]; done) | exact hE.symm | (rw [hE]; rfl) | (rw [hE]; exact hl) | (rw [hE]; exact Nat.le_refl _) | (rw [hE]; exact fun _ => rfl) | (rw [hE]; refine .inr (fun i hi => row_c ?_); simp [ptC, fCl, hE]; done) | (rw [hE]; refine .inr (fun i hi => row_c ?_); by_cases q : i = c.toNat <;> simp [ptC, fCl, upd, clOf, nth, AV.cells, avI_s, avI_i, ofVal, cellOf, q]; done)
      ·
        first | exact .inl ⟨rfl, rfl⟩ | (exfalso; omega) | (rw [hE]; done) | exact hE.symm | (rw [hE]; rfl) | (rw [hE]; exact hl) | (rw [hE]; exact Nat.le_refl _) | (rw [hE]; exact fun _ => rfl) | (rw [hE]; refine .inr (fun i hi => row_c ?_); simp [ptC, fCl, hE]; done) | (rw [hE]; refine .inr (fun i hi => row_c ?_); by_cases q : i = c.toNat <;> simp [ptC, fCl, upd, clOf, nth, AV.cells, avI_s, avI_i, ofVal, cellOf, q]; done)
    | false =>
      have g2 := of_decide_eq_false h2
      try simp only [Int.ofNat_eq_natCast, ge_iff_le, gt_iff_lt, Int.not_lt, Int.not_le] at g2
      cases h3 : (decide (c ≥ Int.ofNat n)) with
      | true =>
        have g3 := of_decide_eq_true h3
        try simp only [Int.ofNat_eq_natCast, ge_iff_le, gt_iff_lt, Int.not_lt, Int.not_le] at g3
        first | (have hE : (ptE n (fCl f) c an s) = 0 := by (simp_all [ptE, fCl, clOf]; done)) | (have hE : (ptE n (fCl f) c an s) = 0 := by (simp_all [ptE, fCl, clOf]; omega)) | (have hE : (ptE n (fCl f) c an s) = 1 := by (simp_all [ptE, fCl, clOf]; done)) | (have hE : (ptE n (fCl f) c an s) = 1 := by (simp_all [ptE, fCl, clOf]; omega)) | (have hE : (ptE n (fCl f) c an s) = 4 := by (simp_all [ptE, fCl, clOf]; done)) | (have hE : (ptE n (fCl f) c an s) = 4 := by (simp_all [ptE, fCl, clOf]; omega))
        refine ⟨2000, _, _, _, pnt_2 .., (ob_cons ?_ (ob_cons rfl (ob_cons rfl (ob_cons rfl (ob_cons ?_ (ob_cons rfl (ob_cons ?_ (ob_cons ?_ (ob_cons (fun _ => rfl) (ob_cons h3 (ob_cons h2 (ob_cons h1 ob_nil))))))))))))⟩
        ·
          first | rfl | (exfalso; omega) | (rw [hE]; done) | exact hE.symm | (rw [hE]; rfl) | (rw [hE]; exact hl) | (rw [hE]; exact Nat.le_refl _) | (rw [hE]; exact fun _ => rfl) | (rw [hE]; refine .inr (fun i hi => row_c ?_); simp [ptC, fCl, hE]; done) | (rw [hE]; refine .inr (fun i hi => row_c ?_); by_cases q : i = c.toNat <;> simp [ptC, fCl, upd, clOf, nth, AV.cells, avI_s, avI_i, ofVal, cellOf, q]; done)
        ·
          first | rfl | (exfalso; omega) | (rw [hE]; done) | exact hE.symm | (rw [hE]; rfl) | (rw [hE]; exact hl) | (rw [hE]; exact Nat.le_refl _) | (rw [hE]; exact fun _ => rfl) | (rw [hE]; refine .inr (fun i hi => row_c ?_); simp [ptC, fCl, hE]; done) | (rw [hE]; refine .inr (fun i hi => row_c ?_); by_cases q : i = c.toNat <;> simp [ptC, fCl, upd, clOf, nth, AV.cells, avI_s, avI_i, ofVal, cellOf, q]; done)
        ·
          first | exact Nat.le_refl _ | omega | (exfalso; omega) | (rw [hE]; done) | exact hE.symm | (rw [hE]; rfl) | (rw [hE]; exact hl) | (rw [hE]; exact Nat.le_refl _) | (rw [hE]; exact fun _ => rfl) | (rw [hE]; refine .inr (fun i hi => row_c ?_); simp [ptC, fCl, hE]; done) | (rw [hE]; refine .inr (fun i hi => row_c ?_); by_cases q : i = c.toNat <;> simp [ptC, fCl, upd, clOf, nth, AV.cells, avI_s, avI_i, ofVal, cellOf, q]; done)
        ·
          first | exact .inl ⟨rfl, rfl⟩ | (exfalso; omega) | (rw [hE]; done) | exact hE.symm | (rw [hE]; rfl) | (rw [hE]; exact hl) | (rw [hE]; exact Nat.le_refl _) | (rw [hE]; exact fun _ => rfl) | (rw [hE]; refine .inr (fun i hi => row_c ?_); simp [ptC, fCl, hE]; done) | (rw [hE]; refine .inr (fun i hi => row_c ?_); by_cases q : i = c.toNat <;> simp [ptC, fCl, upd, clOf, nth, AV.cells, avI_s, avI_i, ofVal, cellOf, q]; done)
      | false =>
        have g3 := of_decide_eq_false h3
        try simp only [Int.ofNat_eq_natCast, ge_iff_le, gt_iff_lt, Int.not_lt, Int.not_le] at g3
        cases h4 : (decide (s < avInt (f (0 + c.toNat) 6))) with
        | true =>
          have g4 := of_decide_eq_true h4
          try simp only [Int.ofNat_eq_natCast, ge_iff_le, gt_iff_lt, Int.not_lt, Int.not_le] at g4
          first | (have hE : (ptE n (fCl f) c an s) = 0 := by (simp_all [ptE, fCl, clOf]; done)) | (have hE : (ptE n (fCl f) c an s) = 0 := by (simp_all [ptE, fCl, clOf]; omega)) | (have hE : (ptE n (fCl f) c an s) = 1 := by (simp_all [ptE, fCl, clOf]; done)) | (have hE : (ptE n (fCl f) c an s) = 1 := by (simp_all [ptE, fCl, clOf]; omega)) | (have hE : (ptE n (fCl f) c an s) = 4 := by (simp_all [ptE, fCl, clOf]; done)) | (have hE : (ptE n (fCl f) c an s) = 4 := by (simp_all [ptE, fCl, clOf]; omega))
          refine ⟨2000, _, _, _, pnt_3 .., (ob_cons ?_ (ob_cons rfl (ob_cons rfl (ob_cons rfl (ob_cons ?_ (ob_cons rfl (ob_cons ?_ (ob_cons ?_ (ob_cons (fun _ => rfl) (ob_cons h4 (ob_cons ?_ (ob_cons ?_ (ob_cons ?_ (ob_cons ?_ (ob_cons h3 (ob_cons h2 (ob_cons h1 ob_nil)))))))))))))))))⟩
          ·
            first | rfl | (exfalso; omega) | (rw [hE]; done) | exact hE.symm | (rw [hE]; rfl) | (rw [hE]; exact hl) | (rw [hE]; exact Nat.le_refl _) | (rw [hE]; exact fun _ => rfl) | (rw [hE]; refine .inr (fun i hi => row_c ?_); simp [ptC, fCl, hE]; done) | (rw [hE]; refine .inr (fun i hi => row_c ?_); by_cases q : i = c.toNat <;> simp [ptC, fCl, upd, clOf, nth, AV.cells, avI_s, avI_i, ofVal, cellOf, q]; done)
          ·
            first | rfl | (exfalso; omega) | (rw [hE]; done) | exact hE.symm | (rw [hE]; rfl) | (rw [hE]; exact hl) | (rw [hE]; exact Nat.le_refl _) | (rw [hE]; exact fun _ => rfl) | (rw [hE]; refine .inr (fun i hi => row_c ?_); simp [ptC, fCl, hE]; done) | (rw [hE]; refine .inr (fun i hi => row_c ?_); by_cases q : i = c.toNat <;> simp [ptC, fCl, upd, clOf, nth, AV.cells, avI_s, avI_i, ofVal, cellOf, q]; done)
          ·
            first | exact Nat.le_refl _ | omega | (exfalso; omega) | (rw [hE]; done) | exact hE.symm | (rw [hE]; rfl) | (rw [hE]; exact hl) | (rw [hE]; exact Nat.le_refl _) | (rw [hE]; exact fun _ => rfl) | (rw [hE]; refine .inr (fun i hi => row_c ?_); simp [ptC, fCl, hE]; done) | (rw [hE]; refine .inr (fun i hi => row_c ?_); by_cases q : i = c.toNat <;> simp [ptC, fCl, upd, clOf, nth, AV.cells, avI_s, avI_i, ofVal, cellOf, q]; done)
          ·
            first | exact .inl ⟨rfl, rfl⟩ | (exfalso; omega) | (rw [hE]; done) | exact hE.symm | (rw [hE]; rfl) | (rw [hE]; exact hl) | (rw [hE]; exact Nat.le_refl _) | (rw [hE]; exact fun _ => rfl) | (rw [hE]; refine .inr (fun i hi => row_c ?_); simp [ptC, fCl, hE]; done) | (rw [hE]; refine .inr (fun i hi => row_c ?_); by_cases q : i = c.toNat <;> simp [ptC, fCl, upd, clOf, nth, AV.cells, avI_s, avI_i, ofVal, cellOf, q]; done)
          ·
            first | (apply Nat.ble_eq_true_of_le; omega) | (simp [Nat.blt_eq]; omega) | (exfalso; omega) | (rw [hE]; done) | exact hE.symm | (rw [hE]; rfl) | (rw [hE]; exact hl) | (rw [hE]; exact Nat.le_refl _) | (rw [hE]; exact fun _ => rfl) | (rw [hE]; refine .inr (fun i hi => row_c ?_); simp [ptC, fCl, hE]; done) | (rw [hE]; refine .inr (fun i hi => row_c ?_); by_cases q : i = c.toNat <;> simp [ptC, fCl, upd, clOf, nth, AV.cells, avI_s, avI_i, ofVal, cellOf, q]; done)
          ·
            first | (apply Nat.ble_eq_true_of_le; omega) | (simp [Nat.blt_eq]; omega) | (exfalso; omega) | (rw [hE]; done) | exact hE.symm | (rw [hE]; rfl) | (rw [hE]; exact hl) | (rw [hE]; exact Nat.le_refl _) | (rw [hE]; exact fun _ => rfl) | (rw [hE]; refine .inr (fun i hi => row_c ?_); simp [ptC, fCl, hE]; done) | (rw [hE]; refine .inr (fun i hi => row_c ?_); by_cases q : i = c.toNat <;> simp [ptC, fCl, upd, clOf, nth, AV.cells, avI_s, avI_i, ofVal, cellOf, q]; done)
          ·
            first | (apply Nat.ble_eq_true_of_le; omega) | (simp [Nat.blt_eq]; omega) | (exfalso; omega) | (rw [hE]; done) | exact hE.symm | (rw [hE]; rfl) | (rw [hE]; exact hl) | (rw [hE]; exact Nat.le_refl _) | (rw [hE]; exact fun _ => rfl) | (rw [hE]; refine .inr (fun i hi => row_c ?_); simp [ptC, fCl, hE]; done) | (rw [hE]; refine .inr (fun i hi => row_c ?_); by_cases q : i = c.toNat <;> simp [ptC, fCl, upd, clOf, nth, AV.cells, avI_s, avI_i, ofVal, cellOf, q]; done)
          ·
            first | (apply Nat.ble_eq_true_of_le; omega) | (simp [Nat.blt_eq]; omega) | (exfalso; omega) | (rw [hE]; done) | exact hE.symm | (rw [hE]; rfl) | (rw [hE]; exact hl) | (rw [hE]; exact Nat.le_refl _) | (rw [hE]; exact fun _ => rfl) | (rw [hE]; refine .inr (fun i hi => row_c ?_); simp [ptC, fCl, hE]; done) | (rw [hE]; refine .inr (fun i hi => row_c ?_); by_cases q : i = c.toNat <;> simp [ptC, fCl, upd, clOf, nth, AV.cells, avI_s, avI_i, ofVal, cellOf, q]; done)
        | false =>
          have g4 := of_decide_eq_false h4
          try simp only [Int.ofNat_eq_natCast, ge_iff_le, gt_iff_lt, Int.not_lt, Int.not_le] at g4
          cases h5 : (avInt (f (0 + c.toNat) 8) != -1) with
          | true =>
            first | (have hE : (ptE n (fCl f) c an s) = 0 := by (simp_all [ptE, fCl, clOf]; done)) | (have hE : (ptE n (fCl f) c an s) = 0 := by (simp_all [ptE, fCl, clOf]; omega)) | (have hE : (ptE n (fCl f) c an s) = 1 := by (simp_all [ptE, fCl, clOf]; done)) | (have hE : (ptE n (fCl f) c an s) = 1 := by (simp_all [ptE, fCl, clOf]; omega)) | (have hE : (ptE n (fCl f) c an s) = 4 := by (simp_all [ptE, fCl, clOf]; done)) | (have hE : (ptE n (fCl f) c an s) = 4 := by (simp_all [ptE, fCl, clOf]; omega))
            refine ⟨2000, _, _, _, pnt_4 .., (ob_cons ?_ (ob_cons rfl (ob_cons rfl (ob_cons rfl (ob_cons ?_ (ob_cons rfl (ob_cons ?_ (ob_cons ?_ (ob_cons (fun _ => rfl) (ob_cons h5 (ob_cons h4 (ob_cons ?_ (ob_cons ?_ (ob_cons ?_ (ob_cons ?_ (ob_cons h3 (ob_cons h2 (ob_cons h1 ob_nil))))))))))))))))))⟩
            ·
              first | rfl | (exfalso; omega) | (rw [hE]; done) | exact hE.symm | (rw [hE]; rfl) | (rw [hE]; exact hl) | (rw [hE]; exact Nat.le_refl _) | (rw [hE]; exact fun _ => rfl) | (rw [hE]; refine .inr (fun i hi => row_c ?_); simp [ptC, fCl, hE]; done) | (rw [hE]; refine .inr (fun i hi => row_c ?_); by_cases q : i = c.toNat <;> simp [ptC, fCl, upd, clOf, nth, AV.cells, avI_s, avI_i, ofVal, cellOf, q]; done)
            ·
              first | rfl | (exfalso; omega) | (rw [hE]; done) | exact hE.symm | (rw [hE]; rfl) | (rw [hE]; exact hl) | (rw [hE]; exact Nat.le_refl _) | (rw [hE]; exact fun _ => rfl) | (rw [hE]; refine .inr (fun i hi => row_c ?_); simp [ptC, fCl, hE]; done) | (rw [hE]; refine .inr (fun i hi => row_c ?_); by_cases q : i = c.toNat <;> simp [ptC, fCl, upd, clOf, nth, AV.cells, avI_s, avI_i, ofVal, cellOf, q]; done)
            ·
              first | exact Nat.le_refl _ | omega | (exfalso; omega) | (rw [hE]; done) | exact hE.symm | (rw [hE]; rfl) | (rw [hE]; exact hl) | (rw [hE]; exact Nat.le_refl _) | (rw [hE]; exact fun _ => rfl) | (rw [hE]; refine .inr (fun i hi => row_c ?_); simp [ptC, fCl, hE]; done) | (rw [hE]; refine .inr (fun i hi => row_c ?_); by_cases q : i = c.toNat <;> simp [ptC, fCl, upd, clOf, nth, AV.cells, avI_s, avI_i, ofVal, cellOf, q]; done)
            ·
              first | exact .inl ⟨rfl, rfl⟩ | (exfalso; omega) | (rw [hE]; done) | exact hE.symm | (rw [hE]; rfl) | (rw [hE]; exact hl) | (rw [hE]; exact Nat.le_refl _) | (rw [hE]; exact fun _ => rfl) | (rw [hE]; refine .inr (fun i hi => row_c ?_); simp [ptC, fCl, hE]; done) | (rw [hE]; refine .inr (fun i hi => row_c ?_); by_cases q : i = c.toNat <;> simp [ptC, fCl, upd, clOf, nth, AV.cells, avI_s, avI_i, ofVal, cellOf, q]; done)
            ·
              first | (apply Nat.ble_eq_true_of_le; omega) | (simp [Nat.blt_eq]; omega) | (exfalso; omega) | (rw [hE]; done) | exact hE.symm | (rw [hE]; rfl) | (rw [hE]; exact hl) | (rw [hE]; exact Nat.le_refl _) | (rw [hE]; exact fun _ => rfl) | (rw [hE]; refine .inr (fun i hi => row_c ?_); simp [ptC, fCl, hE]; done) | (rw [hE]; refine .inr (fun i hi => row_c ?_); by_cases q : i = c.toNat <;> simp [ptC, fCl, upd, clOf, nth, AV.cells, avI_s, avI_i, ofVal, cellOf, q]; done)
            ·
              first | (apply Nat.ble_eq_true_of_le; omega) | (simp [Nat.blt_eq]; omega) | (exfalso; omega) | (rw [hE]; done) | exact hE.symm | (rw [hE]; rfl) | (rw [hE]; exact hl) | (rw [hE]; exact Nat.le_refl _) | (rw [hE]; exact fun _ => rfl) | (rw [hE]; refine .inr (fun i hi => row_c ?_); simp [ptC, fCl, hE]; done) | (rw [hE]; refine .inr (fun i hi => row_c ?_); by_cases q : i = c.toNat <;> simp [ptC, fCl, upd, clOf, nth, AV.cells, avI_s, avI_i, ofVal, cellOf, q]; done)
            ·
              first | (apply Nat.ble_eq_true_of_le; omega) | (simp [Nat.blt_eq]; omega) | (exfalso; omega) | (rw [hE]; done) | exact hE.symm | (rw [hE]; rfl) | (rw [hE]; exact hl) | (rw [hE]; exact Nat.le_refl _) | (rw [hE]; exact fun _ => rfl) | (rw [hE]; refine .inr (fun i hi => row_c ?_); simp [ptC, fCl, hE]; done) | (rw [hE]; refine .inr (fun i hi => row_c ?_); by_cases q : i = c.toNat <;> simp [ptC, fCl, upd, clOf, nth, AV.cells, avI_s, avI_i, ofVal, cellOf, q]; done)
            ·
              first | (apply Nat.ble_eq_true_of_le; omega) | (simp [Nat.blt_eq]; omega) | (exfalso; omega) | (rw [hE]; done) | exact hE.symm | (rw [hE]; rfl) | (rw [hE]; exact hl) | (rw [hE]; exact Nat.le_refl _) | (rw [hE]; exact fun _ => rfl) | (rw [hE]; refine .inr (fun i hi => row_c ?_); simp [ptC, fCl, hE]; done) | (rw [hE]; refine .inr (fun i hi => row_c ?_); by_cases q : i = c.toNat <;> simp [ptC, fCl, upd, clOf, nth, AV.cells, avI_s, avI_i, ofVal, cellOf, q]; done)
          | false =>
            first | (have hE : (ptE n (fCl f) c an s) = 0 := by (simp_all [ptE, fCl, clOf]; done)) | (have hE : (ptE n (fCl f) c an s) = 0 := by (simp_all [ptE, fCl, clOf]; omega)) | (have hE : (ptE n (fCl f) c an s) = 1 := by (simp_all [ptE, fCl, clOf]; done)) | (have hE : (ptE n (fCl f) c an s) = 1 := by (simp_all [ptE, fCl, clOf]; omega)) | (have hE : (ptE n (fCl f) c an s) = 4 := by (simp_all [ptE, fCl, clOf]; done)) | (have hE : (ptE n (fCl f) c an s) = 4 := by (simp_all [ptE, fCl, clOf]; omega))
            refine ⟨2000, _, _, _, pnt_5 .., (ob_cons ?_ (ob_cons rfl (ob_cons rfl (ob_cons rfl (ob_cons ?_ (ob_cons rfl (ob_cons ?_ (ob_cons ?_ (ob_cons (fun _ => rfl) (ob_cons ?_ (ob_cons ?_ (ob_cons ?_ (ob_cons ?_ (ob_cons h5 (ob_cons h4 (ob_cons ?_ (ob_cons ?_ (ob_cons ?_ (ob_cons ?_ (ob_cons h3 (ob_cons h2 (ob_cons h1 ob_nil))))))))))))))))))))))⟩
            ·
              first | rfl | (exfalso; omega) | (rw [hE]; done) | exact hE.symm | (rw [hE]; rfl) | (rw [hE]; exact hl) | (rw [hE]; exact Nat.le_refl _) | (rw [hE]; exact fun _ => rfl) | (rw [hE]; refine .inr (fun i hi => row_c ?_); simp [ptC, fCl, hE]; done) | (rw [hE]; refine .inr (fun i hi => row_c ?_); by_cases q : i = c.toNat <;> simp [ptC, fCl, upd, clOf, nth, AV.cells, avI_s, avI_i, ofVal, cellOf, q]; done)
            ·
              first | rfl | (exfalso; omega) | (rw [hE]; done) | exact hE.symm | (rw [hE]; rfl) | (rw [hE]; exact hl) | (rw [hE]; exact Nat.le_refl _) | (rw [hE]; exact fun _ => rfl) | (rw [hE]; refine .inr (fun i hi => row_c ?_); simp [ptC, fCl, hE]; done) | (rw [hE]; refine .inr (fun i hi => row_c ?_); by_cases q : i = c.toNat <;> simp [ptC, fCl, upd, clOf, nth, AV.cells, avI_s, avI_i, ofVal, cellOf, q]; done)
            ·
              first | exact Nat.le_refl _ | omega | (exfalso; omega) | (rw [hE]; done) | exact hE.symm | (rw [hE]; rfl) | (rw [hE]; exact hl) | (rw [hE]; exact Nat.le_refl _) | (rw [hE]; exact fun _ => rfl) | (rw [hE]; refine .inr (fun i hi => row_c ?_); simp [ptC, fCl, hE]; done) | (rw [hE]; refine .inr (fun i hi => row_c ?_); by_cases q : i = c.toNat <;> simp [ptC, fCl, upd, clOf, nth, AV.cells, avI_s, avI_i, ofVal, cellOf, q]; done)
            ·
              first | exact .inl ⟨rfl, rfl⟩ | (exfalso; omega) | (rw [hE]; done) | exact hE.symm | (rw [hE]; rfl) | (rw [hE]; exact hl) | (rw [hE]; exact Nat.le_refl _) | (rw [hE]; exact fun _ => rfl) | (rw [hE]; refine .inr (fun i hi => row_c ?_); simp [ptC, fCl, hE]; done) | (rw [hE]; refine .inr (fun i hi => row_c ?_); by_cases q : i = c.toNat <;> simp [ptC, fCl, upd, clOf, nth, AV.cells, avI_s, avI_i, ofVal, cellOf, q]; done)
            ·
              first | (apply Nat.ble_eq_true_of_le; omega) | (simp [Nat.blt_eq]; omega) | (exfalso; omega) | (rw [hE]; done) | exact hE.symm | (rw [hE]; rfl) | (rw [hE]; exact hl) | (rw [hE]; exact Nat.le_refl _) | (rw [hE]; exact fun _ => rfl) | (rw [hE]; refine .inr (fun i hi => row_c ?_); simp [ptC, fCl, hE]; done) | (rw [hE]; refine .inr (fun i hi => row_c ?_); by_cases q : i = c.toNat <;> simp [ptC, fCl, upd, clOf, nth, AV.cells, avI_s, avI_i, ofVal, cellOf, q]; done)
            ·
              first | (apply Nat.ble_eq_true_of_le; omega) | (simp [Nat.blt_eq]; omega) | (exfalso; omega) | (rw [hE]; done) | exact hE.symm | (rw [hE]; rfl) | (rw [hE]; exact hl) | (rw [hE]; exact Nat.le_refl _) | (rw [hE]; exact fun _ => rfl) | (rw [hE]; refine .inr (fun i hi => row_c ?_); simp [ptC, fCl, hE]; done) | (rw [hE]; refine .inr (fun i hi => row_c ?_); by_cases q : i = c.toNat <;> simp [ptC, fCl, upd, clOf, nth, AV.cells, avI_s, avI_i, ofVal, cellOf, q]; done)
            ·
              first | (apply Nat.ble_eq_true_of_le; omega) | (simp [Nat.blt_eq]; omega) | (exfalso; omega) | (rw [hE]; done) | exact hE.symm | (rw [hE]; rfl) | (rw [hE]; exact hl) | (rw [hE]; exact Nat.le_refl _) | (rw [hE]; exact fun _ => rfl) | (rw [hE]; refine .inr (fun i hi => row_c ?_); simp [ptC, fCl, hE]; done) | (rw [hE]; refine .inr (fun i hi => row_c ?_); by_cases q : i = c.toNat <;> simp [ptC, fCl, upd, clOf, nth, AV.cells, avI_s, avI_i, ofVal, cellOf, q]; done)
            ·
              first | (apply Nat.ble_eq_true_of_le; omega) | (simp [Nat.blt_eq]; omega) | (exfalso; omega) | (rw [hE]; done) | exact hE.symm | (rw [hE]; rfl) | (rw [hE]; exact hl) | (rw [hE]; exact Nat.le_refl _) | (rw [hE]; exact fun _ => rfl) | (rw [hE]; refine .inr (fun i hi => row_c ?_); simp [ptC, fCl, hE]; done) | (rw [hE]; refine .inr (fun i hi => row_c ?_); by_cases q : i = c.toNat <;> simp [ptC, fCl, upd, clOf, nth, AV.cells, avI_s, avI_i, ofVal, cellOf, q]; done)
            ·
              first | (apply Nat.ble_eq_true_of_le; omega) | (simp [Nat.blt_eq]; omega) | (exfalso; omega) | (rw [hE]; done) | exact hE.symm | (rw [hE]; rfl) | (rw [hE]; exact hl) | (rw [hE]; exact Nat.le_refl _) | (rw [hE]; exact fun _ => rfl) | (rw [hE]; refine .inr (fun i hi => row_c ?_); simp [ptC, fCl, hE]; done) | (rw [hE]; refine .inr (fun i hi => row_c ?_); by_cases q : i = c.toNat <;> simp [ptC, fCl, upd, clOf, nth, AV.cells, avI_s, avI_i, ofVal, cellOf, q]; done)
            ·
              first | (apply Nat.ble_eq_true_of_le; omega) | (simp [Nat.blt_eq]; omega) | (exfalso; omega) | (rw [hE]; done) | exact hE.symm | (rw [hE]; rfl) | (rw [hE]; exact hl) | (rw [hE]; exact Nat.le_refl _) | (rw [hE]; exact fun _ => rfl) | (rw [hE]; refine .inr (fun i hi => row_c ?_); simp [ptC, fCl, hE]; done) | (rw [hE]; refine .inr (fun i hi => row_c ?_); by_cases q : i = c.toNat <;> simp [ptC, fCl, upd, clOf, nth, AV.cells, avI_s, avI_i, ofVal, cellOf, q]; done)
            ·
              first | (apply Nat.ble_eq_true_of_le; omega) | (simp [Nat.blt_eq]; omega) | (exfalso; omega) | (rw [hE]; done) | exact hE.symm | (rw [hE]; rfl) | (rw [hE]; exact hl) | (rw [hE]; exact Nat.le_refl _) | (rw [hE]; exact fun _ => rfl) | (rw [hE]; refine .inr (fun i hi => row_c ?_); simp [ptC, fCl, hE]; done) | (rw [hE]; refine .inr (fun i hi => row_c ?_); by_cases q : i = c.toNat <;> simp [ptC, fCl, upd, clOf, nth, AV.cells, avI_s, avI_i, ofVal, cellOf, q]; done)
            ·
              first | (apply Nat.ble_eq_true_of_le; omega) | (simp [Nat.blt_eq]; omega) | (exfalso; omega) | (rw [hE]; done) | exact hE.symm | (rw [hE]; rfl) | (rw [hE]; exact hl) | (rw [hE]; exact Nat.le_refl _) | (rw [hE]; exact fun _ => rfl) | (rw [hE]; refine .inr (fun i hi => row_c ?_); simp [ptC, fCl, hE]; done) | (rw [hE]; refine .inr (fun i hi => row_c ?_); by_cases q : i = c.toNat <;> simp [ptC, fCl, upd, clOf, nth, AV.cells, avI_s, avI_i, ofVal, cellOf, q]; done)
  | false =>
    cases h6 : (decide (c < 0)) with
    | true =>
      have g6 := of_decide_eq_true h6
      try simp only [Int.ofNat_eq_natCast, ge_iff_le, gt_iff_lt, Int.not_lt, Int.not_le] at g6
      first | (have hE : (ptE n (fCl f) c an s) = 0 := by (simp_all [ptE, fCl, clOf]; done)) | (have hE : (ptE n (fCl f) c an s) = 0 := by (simp_all [ptE, fCl, clOf]; omega)) | (have hE : (ptE n (fCl f) c an s) = 1 := by (simp_all [ptE, fCl, clOf]; done)) | (have hE : (ptE n (fCl f) c an s) = 1 := by (simp_all [ptE, fCl, clOf]; omega)) | (have hE : (ptE n (fCl f) c an s) = 4 := by (simp_all [ptE, fCl, clOf]; done)) | (have hE : (ptE n (fCl f) c an s) = 4 := by (simp_all [ptE, fCl, clOf]; omega))
      refine ⟨2000, _, _, _, pnt_6 .., (ob_cons ?_ (ob_cons rfl (ob_cons rfl (ob_cons rfl (ob_cons ?_ (ob_cons rfl (ob_cons ?_ (ob_cons ?_ (ob_cons (fun _ => rfl) (ob_cons h6 (ob_cons h1 ob_nil)))))))))))⟩
      ·
        first | rfl | (exfalso; omega) | (rw [hE]; done) | exact hE.symm | (rw [hE]; rfl) | (rw [hE]; exact hl) | (rw [hE]; exact Nat.le_refl _) | (rw [hE]; exact fun _ => rfl) | (rw [hE]; refine .inr (fun i hi => row_c ?_); simp [ptC, fCl, hE]; done) | (rw [hE]; refine .inr (fun i hi => row_c ?_); by_cases q : i = c.toNat <;> simp [ptC, fCl, upd, clOf, nth, AV.cells, avI_s, avI_i, ofVal, cellOf, q]; done)
      ·
        first | rfl | (exfalso; omega) | (rw [hE]; done) | exact hE.symm | (rw [hE]; rfl) | (rw [hE]; exact hl) | (rw [hE]; exact Nat.le_refl _) | (rw [hE]; exact fun _ => rfl) | (rw [hE]; refine .inr (fun i hi => row_c ?_); simp [ptC, fCl, hE]; done) | (rw [hE]; refine .inr (fun i hi => row_c ?_); by_cases q : i = c.toNat <;> simp [ptC, fCl, upd, clOf, nth, AV.cells, avI_s, avI_i, ofVal, cellOf, q]; done)
      ·
        first | exact Nat.le_refl _ | omega | (exfalso; omega) | (rw [hE]; done) | exact hE.symm | (rw [hE]; rfl) | (rw [hE]; exact hl) | (rw [hE]; exact Nat.le_refl _) | (rw [hE]; exact fun _ => rfl) | (rw [hE]; refine .inr (fun i hi => row_c ?_); simp [ptC, fCl, hE]; done) | (rw [hE]; refine .inr (fun i hi => row_c ?_); by_cases q : i = c.toNat <;> simp [ptC, fCl, upd, clOf, nth, AV.cells, avI_s, avI_i, ofVal, cellOf, q]; done)
      ·
        first | exact .inl ⟨rfl, rfl⟩ | (exfalso; omega) | (rw [hE]; done) | exact hE.symm | (rw [hE]; rfl) | (rw [hE]; exact hl) | (rw [hE]; exact Nat.le_refl _) | (rw [hE]; exact fun _ => rfl) | (rw [hE]; refine .inr (fun i hi => row_c ?_); simp [ptC, fCl, hE]; done) | (rw [hE]; refine .inr (fun i hi => row_c ?_); by_cases q : i = c.toNat <;> simp [ptC, fCl, upd, clOf, nth, AV.cells, avI_s, avI_i, ofVal, cellOf, q]; done)
    | false =>
      have g6 := of_decide_eq_false h6
      try simp only [Int.ofNat_eq_natCast, ge_iff_le, gt_iff_lt, Int.not_lt, Int.not_le] at g6
      cases h7 : (decide (c ≥ Int.ofNat n)) with
      | true =>
        have g7 := of_decide_eq_true h7
        try simp only [Int.ofNat_eq_natCast, ge_iff_le, gt_iff_lt, Int.not_lt, Int.not_le] at g7
        first | (have hE : (ptE n (fCl f) c an s) = 0 := by (simp_all [ptE, fCl, clOf]; done)) | (have hE : (ptE n (fCl f) c an s) = 0 := by (simp_all [ptE, fCl, clOf]; omega)) | (have hE : (ptE n (fCl f) c an s) = 1 := by (simp_all [ptE, fCl, clOf]; done)) | (have hE : (ptE n (fCl f) c an s) = 1 := by (simp_all [ptE, fCl, clOf]; omega)) | (have hE : (ptE n (fCl f) c an s) = 4 := by (simp_all [ptE, fCl, clOf]; done)) | (have hE : (ptE n (fCl f) c an s) = 4 := by (simp_all [ptE, fCl, clOf]; omega))
        refine ⟨2000, _, _, _, pnt_7 .., (ob_cons ?_ (ob_cons rfl (ob_cons rfl (ob_cons rfl (ob_cons ?_ (ob_cons rfl (ob_cons ?_ (ob_cons ?_ (ob_cons (fun _ => rfl) (ob_cons h7 (ob_cons h6 (ob_cons h1 ob_nil))))))))))))⟩
        ·
          first | rfl | (exfalso; omega) | (rw [hE]; done) | exact hE.symm | (rw [hE]; rfl) | (rw [hE]; exact hl) | (rw [hE]; exact Nat.le_refl _) | (rw [hE]; exact fun _ => rfl) | (rw [hE]; refine .inr (fun i hi => row_c ?_); simp [ptC, fCl, hE]; done) | (rw [hE]; refine .inr (fun i hi => row_c ?_); by_cases q : i = c.toNat <;> simp [ptC, fCl, upd, clOf, nth, AV.cells, avI_s, avI_i, ofVal, cellOf, q]; done)
        ·
          first | rfl | (exfalso; omega) | (rw [hE]; done) | exact hE.symm | (rw [hE]; rfl) | (rw [hE]; exact hl) | (rw [hE]; exact Nat.le_refl _) | (rw [hE]; exact fun _ => rfl) | (rw [hE]; refine .inr (fun i hi => row_c ?_); simp [ptC, fCl, hE]; done) | (rw [hE]; refine .inr (fun i hi => row_c ?_); by_cases q : i = c.toNat <;> simp [ptC, fCl, upd, clOf, nth, AV.cells, avI_s, avI_i, ofVal, cellOf, q]; done)
        ·
          first | exact Nat.le_refl _ | omega | (exfalso; omega) | (rw [hE]; done) | exact hE.symm | (rw [hE]; rfl) | (rw [hE]; exact hl) | (rw [hE]; exact Nat.le_refl _) | (rw [hE]; exact fun _ => rfl) | (rw [hE]; refine .inr (fun i hi => row_c ?_); simp [ptC, fCl, hE]; done) | (rw [hE]; refine .inr (fun i hi => row_c ?_); by_cases q : i = c.toNat <;> simp [ptC, fCl, upd, clOf, nth, AV.cells, avI_s, avI_i, ofVal, cellOf, q]; done)
        ·
          first | exact .inl ⟨rfl, rfl⟩ | (exfalso; omega) | (rw [hE]; done) | exact hE.symm | (rw [hE]; rfl) | (rw [hE]; exact hl) | (rw [hE]; exact Nat.le_refl _) | (rw [hE]; exact fun _ => rfl) | (rw [hE]; refine .inr (fun i hi => row_c ?_); simp [ptC, fCl, hE]; done) | (rw [hE]; refine .inr (fun i hi => row_c ?_); by_cases q : i = c.toNat <;> simp [ptC, fCl, upd, clOf, nth, AV.cells, avI_s, avI_i, ofVal, cellOf, q]; done)
      | false =>
        have g7 := of_decide_eq_false h7
        try simp only [Int.ofNat_eq_natCast, ge_iff_le, gt_iff_lt, Int.not_lt, Int.not_le] at g7
        cases h8 : (!an == 2) with
        | true =>
          first | (have hE : (ptE n (fCl f) c an s) = 0 := by (simp_all [ptE, fCl, clOf]; done)) | (have hE : (ptE n (fCl f) c an s) = 0 := by (simp_all [ptE, fCl, clOf]; omega)) | (have hE : (ptE n (fCl f) c an s) = 1 := by (simp_all [ptE, fCl, clOf]; done)) | (have hE : (ptE n (fCl f) c an s) = 1 := by (simp_all [ptE, fCl, clOf]; omega)) | (have hE : (ptE n (fCl f) c an s) = 4 := by (simp_all [ptE, fCl, clOf]; done)) | (have hE : (ptE n (fCl f) c an s) = 4 := by (simp_all [ptE, fCl, clOf]; omega))
          refine ⟨2000, _, _, _, pnt_8 .., (ob_cons ?_ (ob_cons rfl (ob_cons rfl (ob_cons rfl (ob_cons ?_ (ob_cons rfl (ob_cons ?_ (ob_cons ?_ (ob_cons (fun _ => rfl) (ob_cons ?_ (ob_cons ?_ (ob_cons h8 (ob_cons h7 (ob_cons h6 (ob_cons h1 ob_nil)))))))))))))))⟩
          ·
            first | rfl | (exfalso; omega) | (rw [hE]; done) | exact hE.symm | (rw [hE]; rfl) | (rw [hE]; exact hl) | (rw [hE]; exact Nat.le_refl _) | (rw [hE]; exact fun _ => rfl) | (rw [hE]; refine .inr (fun i hi => row_c ?_); simp [ptC, fCl, hE]; done) | (rw [hE]; refine .inr (fun i hi => row_c ?_); by_cases q : i = c.toNat <;> simp [ptC, fCl, upd, clOf, nth, AV.cells, avI_s, avI_i, ofVal, cellOf, q]; done)
          ·
            first | rfl | (exfalso; omega) | (rw [hE]; done) | exact hE.symm | (rw [hE]; rfl) | (rw [hE]; exact hl) | (rw [hE]; exact Nat.le_refl _) | (rw [hE]; exact fun _ => rfl) | (rw [hE]; refine .inr (fun i hi => row_c ?_); simp [ptC, fCl, hE]; done) | (rw [hE]; refine .inr (fun i hi => row_c ?_); by_cases q : i = c.toNat <;> simp [ptC, fCl, upd, clOf, nth, AV.cells, avI_s, avI_i, ofVal, cellOf, q]; done)
          ·
            first | exact Nat.le_refl _ | omega | (exfalso; omega) | (rw [hE]; done) | exact hE.symm | (rw [hE]; rfl) | (rw [hE]; exact hl) | (rw [hE]; exact Nat.le_refl _) | (rw [hE]; exact fun _ => rfl) | (rw [hE]; refine .inr (fun i hi => row_c ?_); simp [ptC, fCl, hE]; done) | (rw [hE]; refine .inr (fun i hi => row_c ?_); by_cases q : i = c.toNat <;> simp [ptC, fCl, upd, clOf, nth, AV.cells, avI_s, avI_i, ofVal, cellOf, q]; done)
          ·
            first | exact .inl ⟨rfl, rfl⟩ | (exfalso; omega) | (rw [hE]; done) | exact hE.symm | (rw [hE]; rfl) | (rw [hE]; exact hl) | (rw [hE]; exact Nat.le_refl _) | (rw [hE]; exact fun _ => rfl) | (rw [hE]; refine .inr (fun i hi => row_c ?_); simp [ptC, fCl, hE]; done) | (rw [hE]; refine .inr (fun i hi => row_c ?_); by_cases q : i = c.toNat <;> simp [ptC, fCl, upd, clOf, nth, AV.cells, avI_s, avI_i, ofVal, cellOf, q]; done)
          ·
            first | (apply Nat.ble_eq_true_of_le; omega) | (simp [Nat.blt_eq]; omega) | (exfalso; omega) | (rw [hE]; done) | exact hE.symm | (rw [hE]; rfl) | (rw [hE]; exact hl) | (rw [hE]; exact Nat.le_refl _) | (rw [hE]; exact fun _ => rfl) | (rw [hE]; refine .inr (fun i hi => row_c ?_); simp [ptC, fCl, hE]; done) | (rw [hE]; refine .inr (fun i hi => row_c ?_); by_cases q : i = c.toNat <;> simp [ptC, fCl, upd, clOf, nth, AV.cells, avI_s, avI_i, ofVal, cellOf, q]; done)
          ·
            first | (apply Nat.ble_eq_true_of_le; omega) | (simp [Nat.blt_eq]; omega) | (exfalso; omega) | (rw [hE]; done) | exact hE.symm | (rw [hE]; rfl) | (rw [hE]; exact hl) | (rw [hE]; exact Nat.le_refl _) | (rw [hE]; exact fun _ => rfl) | (rw [hE]; refine .inr (fun i hi => row_c ?_); simp [ptC, fCl, hE]; done) | (rw [hE]; refine .inr (fun i hi => row_c ?_); by_cases q : i = c.toNat <;> simp [ptC, fCl, upd, clOf, nth, AV.cells, avI_s, avI_i, ofVal, cellOf, q]; done)
        | false =>
          cases h9 : (decide (s < avInt (f (0 + c.toNat) 6))) with
          | true =>
            have g9 := of_decide_eq_true h9
            try simp only [Int.ofNat_eq_natCast, ge_iff_le, gt_iff_lt, Int.not_lt, Int.not_le] at g9
            first | (have hE : (ptE n (fCl f) c an s) = 0 := by (simp_all [ptE, fCl, clOf]; done)) | (have hE : (ptE n (fCl f) c an s) = 0 := by (simp_all [ptE, fCl, clOf]; omega)) | (have hE : (ptE n (fCl f) c an s) = 1 := by (simp_all [ptE, fCl, clOf]; done)) | (have hE : (ptE n (fCl f) c an s) = 1 := by (simp_all [ptE, fCl, clOf]; omega)) | (have hE : (ptE n (fCl f) c an s) = 4 := by (simp_all [ptE, fCl, clOf]; done)) | (have hE : (ptE n (fCl f) c an s) = 4 := by (simp_all [ptE, fCl, clOf]; omega))
            refine ⟨2000, _, _, _, pnt_9 .., (ob_cons ?_ (ob_cons rfl (ob_cons rfl (ob_cons rfl (ob_cons ?_ (ob_cons rfl (ob_cons ?_ (ob_cons ?_ (ob_cons (fun _ => rfl) (ob_cons h9 (ob_cons ?_ (ob_cons ?_ (ob_cons ?_ (ob_cons ?_ (ob_cons h8 (ob_cons h7 (ob_cons h6 (ob_cons h1 ob_nil))))))))))))))))))⟩
            ·
              first | rfl | (exfalso; omega) | (rw [hE]; done) | exact hE.symm | (rw [hE]; rfl) | (rw [hE]; exact hl) | (rw [hE]; exact Nat.le_refl _) | (rw [hE]; exact fun _ => rfl) | (rw [hE]; refine .inr (fun i hi => row_c ?_); simp [ptC, fCl, hE]; done) | (rw [hE]; refine .inr (fun i hi => row_c ?_); by_cases q : i = c.toNat <;> simp [ptC, fCl, upd, clOf, nth, AV.cells, avI_s, avI_i, ofVal, cellOf, q]; done)
            ·
              first | rfl | (exfalso; omega) | (rw [hE]; done) | exact hE.symm | (rw [hE]; rfl) | (rw [hE]; exact hl) | (rw [hE]; exact Nat.le_refl _) | (rw [hE]; exact fun _ => rfl) | (rw [hE]; refine .inr (fun i hi => row_c ?_); simp [ptC, fCl, hE]; done) | (rw [hE]; refine .inr (fun i hi => row_c ?_); by_cases q : i = c.toNat <;> simp [ptC, fCl, upd, clOf, nth, AV.cells, avI_s, avI_i, ofVal, cellOf, q]; done)
            ·
              first | exact Nat.le_refl _ | omega | (exfalso; omega) | (rw [hE]; done) | exact hE.symm | (rw [hE]; rfl) | (rw [hE]; exact hl) | (rw [hE]; exact Nat.le_refl _) | (rw [hE]; exact fun _ => rfl) | (rw [hE]; refine .inr (fun i hi => row_c ?_); simp [ptC, fCl, hE]; done) | (rw [hE]; refine .inr (fun i hi => row_c ?_); by_cases q : i = c.toNat <;> simp [ptC, fCl, upd, clOf, nth, AV.cells, avI_s, avI_i, ofVal, cellOf, q]; done)
            ·
              first | exact .inl ⟨rfl, rfl⟩ | (exfalso; omega) | (rw [hE]; done) | exact hE.symm | (rw [hE]; rfl) | (rw [hE]; exact hl) | (rw [hE]; exact Nat.le_refl _) | (rw [hE]; exact fun _ => rfl) | (rw [hE]; refine .inr (fun i hi => row_c ?_); simp [ptC, fCl, hE]; done) | (rw [hE]; refine .inr (fun i hi => row_c ?_); by_cases q : i = c.toNat <;> simp [ptC, fCl, upd, clOf, nth, AV.cells, avI_s, avI_i, ofVal, cellOf, q]; done)
            ·
              first | (apply Nat.ble_eq_true_of_le; omega) | (simp [Nat.blt_eq]; omega) | (exfalso; omega) | (rw [hE]; done) | exact hE.symm | (rw [hE]; rfl) | (rw [hE]; exact hl) | (rw [hE]; exact Nat.le_refl _) | (rw [hE]; exact fun _ => rfl) | (rw [hE]; refine .inr (fun i hi => row_c ?_); simp [ptC, fCl, hE]; done) | (rw [hE]; refine .inr (fun i hi => row_c ?_); by_cases q : i = c.toNat <;> simp [ptC, fCl, upd, clOf, nth, AV.cells, avI_s, avI_i, ofVal, cellOf, q]; done)
            ·
              first | (apply Nat.ble_eq_true_of_le; omega) | (simp [Nat.blt_eq]; omega) | (exfalso; omega) | (rw [hE]; done) | exact hE.symm | (rw [hE]; rfl) | (rw [hE]; exact hl) | (rw [hE]; exact Nat.le_refl _) | (rw [hE]; exact fun _ => rfl) | (rw [hE]; refine .inr (fun i hi => row_c ?_); simp [ptC, fCl, hE]; done) | (rw [hE]; refine .inr (fun i hi => row_c ?_); by_cases q : i = c.toNat <;> simp [ptC, fCl, upd, clOf, nth, AV.cells, avI_s, avI_i, ofVal, cellOf, q]; done)
            ·
              first | (apply Nat.ble_eq_true_of_le; omega) | (simp [Nat.blt_eq]; omega) | (exfalso; omega) | (rw [hE]; done) | exact hE.symm | (rw [hE]; rfl) | (rw [hE]; exact hl) | (rw [hE]; exact Nat.le_refl _) | (rw [hE]; exact fun _ => rfl) | (rw [hE]; refine .inr (fun i hi => row_c ?_); simp [ptC, fCl, hE]; done) | (rw [hE]; refine .inr (fun i hi => row_c ?_); by_cases q : i = c.toNat <;> simp [ptC, fCl, upd, clOf, nth, AV.cells, avI_s, avI_i, ofVal, cellOf, q]; done)
            ·
              first | (apply Nat.ble_eq_true_of_le; omega) | (simp [Nat.blt_eq]; omega) | (exfalso; omega) | (rw [hE]; done) | exact hE.symm | (rw [hE]; rfl) | (rw [hE]; exact hl) | (rw [hE]; exact Nat.le_refl _) | (rw [hE]; exact fun _ => rfl) | (rw [hE]; refine .inr (fun i hi => row_c ?_); simp [ptC, fCl, hE]; done) | (rw [hE]; refine .inr (fun i hi => row_c ?_); by_cases q : i = c.toNat <;> simp [ptC, fCl, upd, clOf, nth, AV.cells, avI_s, avI_i, ofVal, cellOf, q]; done)
          | false =>
            have g9 := of_decide_eq_false h9
            try simp only [Int.ofNat_eq_natCast, ge_iff_le, gt_iff_lt, Int.not_lt, Int.not_le] at g9
            cases h10 : (avInt (f (0 + c.toNat) 8) != -1) with
            | true =>
              first | (have hE : (ptE n (fCl f) c an s) = 0 := by (simp_all [ptE, fCl, clOf]; done)) | (have hE : (ptE n (fCl f) c an s) = 0 := by (simp_all [ptE, fCl, clOf]; omega)) | (have hE : (ptE n (fCl f) c an s) = 1 := by (simp_all [ptE, fCl, clOf]; done)) | (have hE : (ptE n (fCl f) c an s) = 1 := by (simp_all [ptE, fCl, clOf]; omega)) | (have hE : (ptE n (fCl f) c an s) = 4 := by (simp_all [ptE, fCl, clOf]; done)) | (have hE : (ptE n (fCl f) c an s) = 4 := by (simp_all [ptE, fCl, clOf]; omega))
              refine ⟨2000, _, _, _, pnt_10 .., (ob_cons ?_ (ob_cons rfl (ob_cons rfl (ob_cons rfl (ob_cons ?_ (ob_cons rfl (ob_cons ?_ (ob_cons ?_ (ob_cons (fun _ => rfl) (ob_cons h10 (ob_cons h9 (ob_cons ?_ (ob_cons ?_ (ob_cons ?_ (ob_cons ?_ (ob_cons h8 (ob_cons h7 (ob_cons h6 (ob_cons h1 ob_nil)))))))))))))))))))⟩
              ·
                first | rfl | (exfalso; omega) | (rw [hE]; done) | exact hE.symm | (rw [hE]; rfl) | (rw [hE]; exact hl) | (rw [hE]; exact Nat.le_refl _) | (rw [hE]; exact fun _ => rfl) | (rw [hE]; refine .inr (fun i hi => row_c ?_); simp [ptC, fCl, hE]; done) | (rw [hE]; refine .inr (fun i hi => row_c ?_); by_cases q : i = c.toNat <;> simp [ptC, fCl, upd, clOf, nth, AV.cells, avI_s, avI_i, ofVal, cellOf, q]; done)
              ·
                first | rfl | (exfalso; omega) | (rw [hE]; done) | exact hE.symm | (rw [hE]; rfl) | (rw [hE]; exact hl) | (rw [hE]; exact Nat.le_refl _) | (rw [hE]; exact fun _ => rfl) | (rw [hE]; refine .inr (fun i hi => row_c ?_); simp [ptC, fCl, hE]; done) | (rw [hE]; refine .inr (fun i hi => row_c ?_); by_cases q : i = c.toNat <;> simp [ptC, fCl, upd, clOf, nth, AV.cells, avI_s, avI_i, ofVal, cellOf, q]; done)
              ·
                first | exact Nat.le_refl _ | omega | (exfalso; omega) | (rw [hE]; done) | exact hE.symm | (rw [hE]; rfl) | (rw [hE]; exact hl) | (rw [hE]; exact Nat.le_refl _) | (rw [hE]; exact fun _ => rfl) | (rw [hE]; refine .inr (fun i hi => row_c ?_); simp [ptC, fCl, hE]; done) | (rw [hE]; refine .inr (fun i hi => row_c ?_); by_cases q : i = c.toNat <;> simp [ptC, fCl, upd, clOf, nth, AV.cells, avI_s, avI_i, ofVal, cellOf, q]; done)
              ·
                first | exact .inl ⟨rfl, rfl⟩ | (exfalso; omega) | (rw [hE]; done) | exact hE.symm | (rw [hE]; rfl) | (rw [hE]; exact hl) | (rw [hE]; exact Nat.le_refl _) | (rw [hE]; exact fun _ => rfl) | (rw [hE]; refine .inr (fun i hi => row_c ?_); simp [ptC, fCl, hE]; done) | (rw [hE]; refine .inr (fun i hi => row_c ?_); by_cases q : i = c.toNat <;> simp [ptC, fCl, upd, clOf, nth, AV.cells, avI_s, avI_i, ofVal, cellOf, q]; done)
              ·
                first | (apply Nat.ble_eq_true_of_le; omega) | (simp [Nat.blt_eq]; omega) | (exfalso; omega) | (rw [hE]; done) | exact hE.symm | (rw [hE]; rfl) | (rw [hE]; exact hl) | (rw [hE]; exact Nat.le_refl _) | (rw [hE]; exact fun _ => rfl) | (rw [hE]; refine .inr (fun i hi => row_c ?_); simp [ptC, fCl, hE]; done) | (rw [hE]; refine .inr (fun i hi => row_c ?_); by_cases q : i = c.toNat <;> simp [ptC, fCl, upd, clOf, nth, AV.cells, avI_s, avI_i, ofVal, cellOf, q]; done)
              ·
                first | (apply Nat.ble_eq_true_of_le; omega) | (simp [Nat.blt_eq]; omega) | (exfalso; omega) | (rw [hE]; done) | exact hE.symm | (rw [hE]; rfl) | (rw [hE]; exact hl) | (rw [hE]; exact Nat.le_refl _) | (rw [hE]; exact fun _ => rfl) | (rw [hE]; refine .inr (fun i hi => row_c ?_); simp [ptC, fCl, hE]; done) | (rw [hE]; refine .inr (fun i hi => row_c ?_); by_cases q : i = c.toNat <;> simp [ptC, fCl, upd, clOf, nth, AV.cells, avI_s, avI_i, ofVal, cellOf, q]; done)
              ·
                first | (apply Nat.ble_eq_true_of_le; omega) | (simp [Nat.blt_eq]; omega) | (exfalso; omega) | (rw [hE]; done) | exact hE.symm | (rw [hE]; rfl) | (rw [hE]; exact hl) | (rw [hE]; exact Nat.le_refl _) | (rw [hE]; exact fun _ => rfl) | (rw [hE]; refine .inr (fun i hi => row_c ?_); simp [ptC, fCl, hE]; done) | (rw [hE]; refine .inr (fun i hi => row_c ?_); by_cases q : i = c.toNat <;> simp [ptC, fCl, upd, clOf, nth, AV.cells, avI_s, avI_i, ofVal, cellOf, q]; done)
              ·
                first | (apply Nat.ble_eq_true_of_le; omega) | (simp [Nat.blt_eq]; omega) | (exfalso; omega) | (rw [hE]; done) | exact hE.symm | (rw [hE]; rfl) | (rw [hE]; exact hl) | (rw [hE]; exact Nat.le_refl _) | (rw [hE]; exact fun _ => rfl) | (rw [hE]; refine .inr (fun i hi => row_c ?_); simp [ptC, fCl, hE]; done) | (rw [hE]; refine .inr (fun i hi => row_c ?_); by_cases q : i = c.toNat <;> simp [ptC, fCl, upd, clOf, nth, AV.cells, avI_s, avI_i, ofVal, cellOf, q]; done)
            | false =>
              first | (have hE : (ptE n (fCl f) c an s) = 0 := by (simp_all [ptE, fCl, clOf]; done)) | (have hE : (ptE n (fCl f) c an s) = 0 := by (simp_all [ptE, fCl, clOf]; omega)) | (have hE : (ptE n (fCl f) c an s) = 1 := by (simp_all [ptE, fCl, clOf]; done)) | (have hE : (ptE n (fCl f) c an s) = 1 := by (simp_all [ptE, fCl, clOf]; omega)) | (have hE : (ptE n (fCl f) c an s) = 4 := by (simp_all [ptE, fCl, clOf]; done)) | (have hE : (ptE n (fCl f) c an s) = 4 := by (simp_all [ptE, fCl, clOf]; omega))
              refine ⟨2000, _, _, _, pnt_11 .., (ob_cons ?_ (ob_cons rfl (ob_cons rfl (ob_cons rfl (ob_cons ?_ (ob_cons rfl (ob_cons ?_ (ob_cons ?_ (ob_cons (fun _ => rfl) (ob_cons ?_ (ob_cons ?_ (ob_cons ?_ (ob_cons ?_ (ob_cons h10 (ob_cons h9 (ob_cons ?_ (ob_cons ?_ (ob_cons ?_ (ob_cons ?_ (ob_cons h8 (ob_cons h7 (ob_cons h6 (ob_cons h1 ob_nil)))))))))))))))))))))))⟩
              ·
                first | rfl | (exfalso; omega) | (rw [hE]; done) | exact hE.symm | (rw [hE]; rfl) | (rw [hE]; exact hl) | (rw [hE]; exact Nat.le_refl _) | (rw [hE]; exact fun _ => rfl) | (rw [hE]; refine .inr (fun i hi => row_c ?_); simp [ptC, fCl, hE]; done) | (rw [hE]; refine .inr (fun i hi => row_c ?_); by_cases q : i = c.toNat <;> simp [ptC, fCl, upd, clOf, nth, AV.cells, avI_s, avI_i, ofVal, cellOf, q]; done)
              ·
                first | rfl | (exfalso; omega) | (rw [hE]; done) | exact hE.symm | (rw [hE]; rfl) | (rw [hE]; exact hl) | (rw [hE]; exact Nat.le_refl _) | (rw [hE]; exact fun _ => rfl) | (rw [hE]; refine .inr (fun i hi => row_c ?_); simp [ptC, fCl, hE]; done) | (rw [hE]; refine .inr (fun i hi => row_c ?_); by_cases q : i = c.toNat <;> simp [ptC, fCl, upd, clOf, nth, AV.cells, avI_s, avI_i, ofVal, cellOf, q]; done)
              ·
                first | exact Nat.le_refl _ | omega | (exfalso; omega) | (rw [hE]; done) | exact hE.symm | (rw [hE]; rfl) | (rw [hE]; exact hl) | (rw [hE]; exact Nat.le_refl _) | (rw [hE]; exact fun _ => rfl) | (rw [hE]; refine .inr (fun i hi => row_c ?_); simp [ptC, fCl, hE]; done) | (rw [hE]; refine .inr (fun i hi => row_c ?_); by_cases q : i = c.toNat <;> simp [ptC, fCl, upd, clOf, nth, AV.cells, avI_s, avI_i, ofVal, cellOf, q]; done)
              ·
                first | exact .inl ⟨rfl, rfl⟩ | (exfalso; omega) | (rw [hE]; done) | exact hE.symm | (rw [hE]; rfl) | (rw [hE]; exact hl) | (rw [hE]; exact Nat.le_refl _) | (rw [hE]; exact fun _ => rfl) | (rw [hE]; refine .inr (fun i hi => row_c ?_); simp [ptC, fCl, hE]; done) | (rw [hE]; refine .inr (fun i hi => row_c ?_); by_cases q : i = c.toNat <;> simp [ptC, fCl, upd, clOf, nth, AV.cells, avI_s, avI_i, ofVal, cellOf, q]; done)
              ·
                first | (apply Nat.ble_eq_true_of_le; omega) | (simp [Nat.blt_eq]; omega) | (exfalso; omega) | (rw [hE]; done) | exact hE.symm | (rw [hE]; rfl) | (rw [hE]; exact hl) | (rw [hE]; exact Nat.le_refl _) | (rw [hE]; exact fun _ => rfl) | (rw [hE]; refine .inr (fun i hi => row_c ?_); simp [ptC, fCl, hE]; done) | (rw [hE]; refine .inr (fun i hi => row_c ?_); by_cases q : i = c.toNat <;> simp [ptC, fCl, upd, clOf, nth, AV.cells, avI_s, avI_i, ofVal, cellOf, q]; done)
              ·
                first | (apply Nat.ble_eq_true_of_le; omega) | (simp [Nat.blt_eq]; omega) | (exfalso; omega) | (rw [hE]; done) | exact hE.symm | (rw [hE]; rfl) | (rw [hE]; exact hl) | (rw [hE]; exact Nat.le_refl _) | (rw [hE]; exact fun _ => rfl) | (rw [hE]; refine .inr (fun i hi => row_c ?_); simp [ptC, fCl, hE]; done) | (rw [hE]; refine .inr (fun i hi => row_c ?_); by_cases q : i = c.toNat <;> simp [ptC, fCl, upd, clOf, nth, AV.cells, avI_s, avI_i, ofVal, cellOf, q]; done)
              ·
                first | (apply Nat.ble_eq_true_of_le; omega) | (simp [Nat.blt_eq]; omega) | (exfalso; omega) | (rw [hE]; done) | exact hE.symm | (rw [hE]; rfl) | (rw [hE]; exact hl) | (rw [hE]; exact Nat.le_refl _) | (rw [hE]; exact fun _ => rfl) | (rw [hE]; refine .inr (fun i hi => row_c ?_); simp [ptC, fCl, hE]; done) | (rw [hE]; refine .inr (fun i hi => row_c ?_); by_cases q : i = c.toNat <;> simp [ptC, fCl, upd, clOf, nth, AV.cells, avI_s, avI_i, ofVal, cellOf, q]; done)
              ·
                first | (apply Nat.ble_eq_true_of_le; omega) | (simp [Nat.blt_eq]; omega) | (exfalso; omega) | (rw [hE]; done) | exact hE.symm | (rw [hE]; rfl) | (rw [hE]; exact hl) | (rw [hE]; exact Nat.le_refl _) | (rw [hE]; exact fun _ => rfl) | (rw [hE]; refine .inr (fun i hi => row_c ?_); simp [ptC, fCl, hE]; done) | (rw [hE]; refine .inr (fun i hi => row_c ?_); by_cases q : i = c.toNat <;> simp [ptC, fCl, upd, clOf, nth, AV.cells, avI_s, avI_i, ofVal, cellOf, q]; done)
              ·
                first | (apply Nat.ble_eq_true_of_le; omega) | (simp [Nat.blt_eq]; omega) | (exfalso; omega) | (rw [hE]; done) | exact hE.symm | (rw [hE]; rfl) | (rw [hE]; exact hl) | (rw [hE]; exact Nat.le_refl _) | (rw [hE]; exact fun _ => rfl) | (rw [hE]; refine .inr (fun i hi => row_c ?_); simp [ptC, fCl, hE]; done) | (rw [hE]; refine .inr (fun i hi => row_c ?_); by_cases q : i = c.toNat <;> simp [ptC, fCl, upd, clOf, nth, AV.cells, avI_s, avI_i, ofVal, cellOf, q]; done)
              ·
                first | (apply Nat.ble_eq_true_of_le; omega) | (simp [Nat.blt_eq]; omega) | (exfalso; omega) | (rw [hE]; done) | exact hE.symm | (rw [hE]; rfl) | (rw [hE]; exact hl) | (rw [hE]; exact Nat.le_refl _) | (rw [hE]; exact fun _ => rfl) | (rw [hE]; refine .inr (fun i hi => row_c ?_); simp [ptC, fCl, hE]; done) | (rw [hE]; refine .inr (fun i hi => row_c ?_); by_cases q : i = c.toNat <;> simp [ptC, fCl, upd, clOf, nth, AV.cells, avI_s, avI_i, ofVal, cellOf, q]; done)
              ·
                first | (apply Nat.ble_eq_true_of_le; omega) | (simp [Nat.blt_eq]; omega) | (exfalso; omega) | (rw [hE]; done) | exact hE.symm | (rw [hE]; rfl) | (rw [hE]; exact hl) | (rw [hE]; exact Nat.le_refl _) | (rw [hE]; exact fun _ => rfl) | (rw [hE]; refine .inr (fun i hi => row_c ?_); simp [ptC, fCl, hE]; done) | (rw [hE]; refine .inr (fun i hi => row_c ?_); by_cases q : i = c.toNat <;> simp [ptC, fCl, upd, clOf, nth, AV.cells, avI_s, avI_i, ofVal, cellOf, q]; done)
              ·
                first | (apply Nat.ble_eq_true_of_le; omega) | (simp [Nat.blt_eq]; omega) | (exfalso; omega) | (rw [hE]; done) | exact hE.symm | (rw [hE]; rfl) | (rw [hE]; exact hl) | (rw [hE]; exact Nat.le_refl _) | (rw [hE]; exact fun _ => rfl) | (rw [hE]; refine .inr (fun i hi => row_c ?_); simp [ptC, fCl, hE]; done) | (rw [hE]; refine .inr (fun i hi => row_c ?_); by_cases q : i = c.toNat <;> simp [ptC, fCl, upd, clOf, nth, AV.cells, avI_s, avI_i, ofVal, cellOf, q]; done)
noncomputable def pntSpec : LSpec := fun la lh => match la, lh with
  | [.ptr z1 z2 z3, .sym .i64 c, .sym .u8 an, .sym .u64 va, .sym .i64 s], [(z4, .cells z5 [.ss z6 z7 z8 n none, .map z9, .sym .i64 last]), (z10, .arr z11 z12 false l f), (z13, .map z14 U)] =>
    match Nat.beq z1 1 && (Nat.beq z2 0 && (Nat.beq z3 0 && (Nat.beq z4 1 && (Nat.beq z5 3 && (Nat.beq z6 9 && (Nat.beq z7 2 && (Nat.beq z8 0 && (Nat.beq z9 3 && (Nat.beq z10 2 && (Nat.beq z11 9 && (shBeq z12 cSh && (Nat.beq z13 3 && (Nat.beq z14 76))))))))))))) with
    | true => some (pntR c an va s n l f U last)
    | false => none
  | _, _ => none
theorem pntSpec_ok (la : List AV) (lh : List (Nat × AO)) (R : LR) (h : pntSpec la lh = some R) : LocOk Try.prog 27 la lh R := by
  unfold pntSpec at h
  split at h
  · rename_i z1 z2 z3 c an va s z4 z5 z6 z7 z8 n z9 last z10 z11 z12 l f z13 z14 U
    split at h
    · rename_i hb
      simp only [Bool.and_eq_true] at hb
      obtain ⟨e1, e2, e3, e4, e5, e6, e7, e8, e9, e10, e11, e12, e13, e14⟩ := hb
      have e1 := Nat.eq_of_beq_eq_true e1; subst e1
      have e2 := Nat.eq_of_beq_eq_true e2; subst e2
      have e3 := Nat.eq_of_beq_eq_true e3; subst e3
      have e4 := Nat.eq_of_beq_eq_true e4; subst e4
      have e5 := Nat.eq_of_beq_eq_true e5; subst e5
      have e6 := Nat.eq_of_beq_eq_true e6; subst e6
      have e7 := Nat.eq_of_beq_eq_true e7; subst e7
      have e8 := Nat.eq_of_beq_eq_true e8; subst e8
      have e9 := Nat.eq_of_beq_eq_true e9; subst e9
      have e10 := Nat.eq_of_beq_eq_true e10; subst e10
      have e11 := Nat.eq_of_beq_eq_true e11; subst e11
      have e12 := shBeq_eq e12; subst e12
      have e13 := Nat.eq_of_beq_eq_true e13; subst e13
      have e14 := Nat.eq_of_beq_eq_true e14; subst e14
      cases h
      exact pnt_loc c an va s n l f U last
    · cases h
  · cases h

theorem hen_1 (c s : Int) (n l : Nat) (f : Nat → Nat → AV) (U : List Int → Option Int) (last : Int) : callB EH2 2000 29 [AV.ptr 1 0 0, AV.sym IntKind.i64 c, AV.sym IntKind.i64 s] (henH c s n l f U last) (henR c s n l f U last) [] [Hint.b true] =
 some ([1 = enE n (fCl f) last c s,
 (0 : Nat) = 0,
 n = n,
 (none : Option Nat) = none,
 last = onOk (enE n (fCl f) last c s) s last,
 false = false,
 n ≤ l,
 cF (enC (enE n (fCl f) last c s) (fCl f) c s) = f ∧ plainSh cSh = true ∨ ∀ (i : Nat), i < n → rowOb cSh 0 (f i) (cF (enC (enE n (fCl f) last c s) (fCl f) c s) i),
 ∀ (k : List Int), U k = onOk (enE n (fCl f) last c s) (setKey U [(fCl f c.toNat).th] none) U k,
 decide (c < 0) = true]) := by kernel_rfl
theorem hen_2 (c s : Int) (n l : Nat) (f : Nat → Nat → AV) (U : List Int → Option Int) (last : Int) : callB EH2 2000 29 [AV.ptr 1 0 0, AV.sym IntKind.i64 c, AV.sym IntKind.i64 s] (henH c s n l f U last) (henR c s n l f U last) [] [Hint.b false, Hint.b true] =
 some ([1 = enE n (fCl f) last c s,
 (0 : Nat) = 0,
 n = n,
 (none : Option Nat) = none,
 last = onOk (enE n (fCl f) last c s) s last,
 false = false,
 n ≤ l,
 cF (enC (enE n (fCl f) last c s) (fCl f) c s) = f ∧ plainSh cSh = true ∨ ∀ (i : Nat), i < n → rowOb cSh 0 (f i) (cF (enC (enE n (fCl f) last c s) (fCl f) c s) i),
 ∀ (k : List Int), U k = onOk (enE n (fCl f) last c s) (setKey U [(fCl f c.toNat).th] none) U k,
 decide (c ≥ Int.ofNat n) = true,
 decide (c < 0) = false]) := by kernel_rfl
theorem hen_3 (c s : Int) (n l : Nat) (f : Nat → Nat → AV) (U : List Int → Option Int) (last : Int) : callB EH2 2000 29 [AV.ptr 1 0 0, AV.sym IntKind.i64 c, AV.sym IntKind.i64 s] (henH c s n l f U last) (henR c s n l f U last) [] [Hint.b false, Hint.b false, Hint.node [(27, [Hint.b true])]] =
 some ([1 = enE n (fCl f) last c s,
 (0 : Nat) = 0,
 n = n,
 (none : Option Nat) = none,
 last = onOk (enE n (fCl f) last c s) s last,
 false = false,
 n ≤ l,
 cF (enC (enE n (fCl f) last c s) (fCl f) c s) = f ∧ plainSh cSh = true ∨ ∀ (i : Nat), i < n → rowOb cSh 0 (f i) (cF (enC (enE n (fCl f) last c s) (fCl f) c s) i),
 ∀ (k : List Int), U k = onOk (enE n (fCl f) last c s) (setKey U [(fCl f c.toNat).th] none) U k,
 decide (s < last) = true,
 (0 + c.toNat).blt l = true,
 (c.toNat.blt n && decide (0 ≤ c)) = true,
 (0 + c.toNat).blt l = true,
 (c.toNat.blt n && decide (0 ≤ c)) = true,
 decide (c ≥ Int.ofNat n) = false,
 decide (c < 0) = false]) := by kernel_rfl
theorem hen_4 (c s : Int) (n l : Nat) (f : Nat → Nat → AV) (U : List Int → Option Int) (last : Int) : callB EH2 2000 29 [AV.ptr 1 0 0, AV.sym IntKind.i64 c, AV.sym IntKind.i64 s] (henH c s n l f U last) (henR c s n l f U last) [] [Hint.b false, Hint.b false, Hint.node [(27, [Hint.b false, Hint.b true])]] =
 some ([4 = enE n (fCl f) last c s,
 (0 : Nat) = 0,
 n = n,
 (none : Option Nat) = none,
 last = onOk (enE n (fCl f) last c s) s last,
 false = false,
 n ≤ l,
 cF (enC (enE n (fCl f) last c s) (fCl f) c s) = f ∧ plainSh cSh = true ∨ ∀ (i : Nat), i < n → rowOb cSh 0 (f i) (cF (enC (enE n (fCl f) last c s) (fCl f) c s) i),
 ∀ (k : List Int), U k = onOk (enE n (fCl f) last c s) (setKey U [(fCl f c.toNat).th] none) U k,
 (avInt (f (0 + c.toNat) 8) != -1) = true,
 decide (s < last) = false,
 (0 + c.toNat).blt l = true,
 (c.toNat.blt n && decide (0 ≤ c)) = true,
 (0 + c.toNat).blt l = true,
 (c.toNat.blt n && decide (0 ≤ c)) = true,
 decide (c ≥ Int.ofNat n) = false,
 decide (c < 0) = false]) := by kernel_rfl
theorem hen_5 (c s : Int) (n l : Nat) (f : Nat → Nat → AV) (U : List Int → Option Int) (last : Int) : callB EH2 2000 29 [AV.ptr 1 0 0, AV.sym IntKind.i64 c, AV.sym IntKind.i64 s] (henH c s n l f U last) (henR c s n l f U last) [] [Hint.b false, Hint.b false, Hint.node [(27, [Hint.b false, Hint.b false])], Hint.b true] =
 some ([0 = enE n (fCl f) last c s,
 (0 : Nat) = 0,
 n = n,
 (none : Option Nat) = none,
 s = onOk (enE n (fCl f) last c s) s last,
 false = false,
 n ≤ l,
 cF (enC (enE n (fCl f) last c s) (fCl f) c s) = upd (upd f (0 + c.toNat) 8 (AV.sym IntKind.i64 s).cells) (0 + c.toNat) 4 (ofVal (Value.int IntKind.u8 3)).cells ∧ plainSh cSh = true ∨ ∀ (i : Nat), i < n → rowOb cSh 0 (upd (upd f (0 + c.toNat) 8 (AV.sym IntKind.i64 s).cells) (0 + c.toNat) 4 (ofVal (Value.int IntKind.u8 3)).cells i) (cF (enC (enE n (fCl f) last c s) (fCl f) c s) i),
 ∀ (k : List Int), setKey U [avInt (upd (upd f (0 + c.toNat) 8 (AV.sym IntKind.i64 s).cells) (0 + c.toNat) 4 (ofVal (Value.int IntKind.u8 3)).cells (0 + c.toNat) 0)] none k = onOk (enE n (fCl f) last c s) (setKey U [(fCl f c.toNat).th] none) U k,
 (0 + c.toNat).blt l = true,
 (0 + c.toNat).blt l = true,
 (avInt (upd f (0 + c.toNat) 8 (AV.sym IntKind.i64 s).cells (0 + c.toNat) 7) == -1) = true,
 (0 + c.toNat).blt l = true,
 (0 + c.toNat).blt l = true,
 (c.toNat.blt n && decide (0 ≤ c)) = true,
 (avInt (f (0 + c.toNat) 8) != -1) = false,
 decide (s < last) = false,
 (0 + c.toNat).blt l = true,
 (c.toNat.blt n && decide (0 ≤ c)) = true,
 (0 + c.toNat).blt l = true,
 (c.toNat.blt n && decide (0 ≤ c)) = true,
 decide (c ≥ Int.ofNat n) = false,
 decide (c < 0) = false]) := by kernel_rfl
theorem hen_6 (c s : Int) (n l : Nat) (f : Nat → Nat → AV) (U : List Int → Option Int) (last : Int) : callB EH2 2000 29 [AV.ptr 1 0 0, AV.sym IntKind.i64 c, AV.sym IntKind.i64 s] (henH c s n l f U last) (henR c s n l f U last) [] [Hint.b false, Hint.b false, Hint.node [(27, [Hint.b false, Hint.b false])], Hint.b false] =
 some ([0 = enE n (fCl f) last c s,
 (0 : Nat) = 0,
 n = n,
 (none : Option Nat) = none,
 s = onOk (enE n (fCl f) last c s) s last,
 false = false,
 n ≤ l,
 cF (enC (enE n (fCl f) last c s) (fCl f) c s) = upd f (0 + c.toNat) 8 (AV.sym IntKind.i64 s).cells ∧ plainSh cSh = true ∨ ∀ (i : Nat), i < n → rowOb cSh 0 (upd f (0 + c.toNat) 8 (AV.sym IntKind.i64 s).cells i) (cF (enC (enE n (fCl f) last c s) (fCl f) c s) i),
 ∀ (k : List Int), setKey U [avInt (upd f (0 + c.toNat) 8 (AV.sym IntKind.i64 s).cells (0 + c.toNat) 0)] none k = onOk (enE n (fCl f) last c s) (setKey U [(fCl f c.toNat).th] none) U k,
 (0 + c.toNat).blt l = true,
 (avInt (upd f (0 + c.toNat) 8 (AV.sym IntKind.i64 s).cells (0 + c.toNat) 7) == -1) = false,
 (0 + c.toNat).blt l = true,
 (0 + c.toNat).blt l = true,
 (c.toNat.blt n && decide (0 ≤ c)) = true,
 (avInt (f (0 + c.toNat) 8) != -1) = false,
 decide (s < last) = false,
 (0 + c.toNat).blt l = true,
 (c.toNat.blt n && decide (0 ≤ c)) = true,
 (0 + c.toNat).blt l = true,
 (c.toNat.blt n && decide (0 ≤ c)) = true,
 decide (c ≥ Int.ofNat n) = false,
 decide (c < 0) = false]) := by kernel_rfl
theorem hen_loc (c s : Int) (n l : Nat) (f : Nat → Nat → AV) (U : List Int → Option Int) (last : Int) : LocOk Try.prog 29 [.ptr 1 0 0, .sym .i64 c, .sym .i64 s] (henH c s n l f U last) (henR c s n l f U last) := by
  refine loc_of_call EH2_ok (fun hp => ?_)
  have hl : n ≤ l := hp _ (List.mem_cons_self ..)
  have hm : n ≤ 100000 := hp _ (List.mem_cons_of_mem _ (List.mem_cons_self ..))
  clear hp
  cases h1 : (decide (c < 0)) with
  | true =>
    have g1 := of_decide_eq_true h1
    try simp only [Int.ofNat_eq_natCast, ge_iff_le, gt_iff_lt, Int.not_lt, Int.not_le] at g1
    first | (have hE : (enE n (fCl f) last c s) = 0 := by (simp_all [enE, fCl, clOf]; done)) | (have hE : (enE n (fCl f) last c s) = 0 := by (simp_all [enE, fCl, clOf]; omega)) | (have hE : (enE n (fCl f) last c s) = 1 := by (simp_all [enE, fCl, clOf]; done)) | (have hE : (enE n (fCl f) last c s) = 1 := by (simp_all [enE, fCl, clOf]; omega)) | (have hE : (enE n (fCl f) last c s) = 4 := by (simp_all [enE, fCl, clOf]; done)) | (have hE : (enE n (fCl f) last c s) = 4 := by (simp_all [enE, fCl, clOf]; omega))
    refine ⟨2000, _, _, _, hen_1 .., (ob_cons ?_ (ob_cons rfl (ob_cons rfl (ob_cons rfl (ob_cons ?_ (ob_cons rfl (ob_cons ?_ (ob_cons ?_ (ob_cons ?_ (ob_cons h1 ob_nil))))))))))⟩
    ·
      first | rfl | (exfalso; omega) | (rw [hE]; done) | exact hE.symm | (rw [hE]; rfl) | (rw [hE]; exact hl) | (rw [hE]; exact Nat.le_refl _) | (rw [hE]; exact fun _ => rfl) | (rw [hE]; intro q; simp [onOk, fCl, upd, clOf, nth, AV.cells, avI_s, avI_i, ofVal, cellOf]; done) | (rw [hE]; refine .inr (fun i hi => row_c ?_); simp [enC, fCl, hE]; done) | (rw [hE]; refine .inr (fun i hi => row_c ?_); by_cases q : i = c.toNat <;> simp_all [enC, fCl, upd, clOf, nth, AV.cells, avI_s, avI_i, ofVal, cellOf]; done)
    ·
      first | rfl | (exfalso; omega) | (rw [hE]; done) | exact hE.symm | (rw [hE]; rfl) | (rw [hE]; exact hl) | (rw [hE]; exact Nat.le_refl _) | (rw [hE]; exact fun _ => rfl) | (rw [hE]; intro q; simp [onOk, fCl, upd, clOf, nth, AV.cells, avI_s, avI_i, ofVal, cellOf]; done) | (rw [hE]; refine .inr (fun i hi => row_c ?_); simp [enC, fCl, hE]; done) | (rw [hE]; refine .inr (fun i hi => row_c ?_); by_cases q : i = c.toNat <;> simp_all [enC, fCl, upd, clOf, nth, AV.cells, avI_s, avI_i, ofVal, cellOf]; done)
    ·
      first | exact Nat.le_refl _ | omega | (exfalso; omega) | (rw [hE]; done) | exact hE.symm | (rw [hE]; rfl) | (rw [hE]; exact hl) | (rw [hE]; exact Nat.le_refl _) | (rw [hE]; exact fun _ => rfl) | (rw [hE]; intro q; simp [onOk, fCl, upd, clOf, nth, AV.cells, avI_s, avI_i, ofVal, cellOf]; done) | (rw [hE]; refine .inr (fun i hi => row_c ?_); simp [enC, fCl, hE]; done) | (rw [hE]; refine .inr (fun i hi => row_c ?_); by_cases q : i = c.toNat <;> simp_all [enC, fCl, upd, clOf, nth, AV.cells, avI_s, avI_i, ofVal, cellOf]; done)
    ·
      first | exact .inl ⟨rfl, rfl⟩ | (exfalso; omega) | (rw [hE]; done) | exact hE.symm | (rw [hE]; rfl) | (rw [hE]; exact hl) | (rw [hE]; exact Nat.le_refl _) | (rw [hE]; exact fun _ => rfl) | (rw [hE]; intro q; simp [onOk, fCl, upd, clOf, nth, AV.cells, avI_s, avI_i, ofVal, cellOf]; done) | (rw [hE]; refine .inr (fun i hi => row_c ?_); simp [enC, fCl, hE]; done) | (rw [hE]; refine .inr (fun i hi => row_c ?_); by_cases q : i = c.toNat <;> simp_all [enC, fCl, upd, clOf, nth, AV.cells, avI_s, avI_i, ofVal, cellOf]; done)
    ·
      first | exact fun _ => rfl | (exfalso; omega) | (rw [hE]; done) | exact hE.symm | (rw [hE]; rfl) | (rw [hE]; exact hl) | (rw [hE]; exact Nat.le_refl _) | (rw [hE]; exact fun _ => rfl) | (rw [hE]; intro q; simp [onOk, fCl, upd, clOf, nth, AV.cells, avI_s, avI_i, ofVal, cellOf]; done) | (rw [hE]; refine .inr (fun i hi => row_c ?_); simp [enC, fCl, hE]; done) | (rw [hE]; refine .inr (fun i hi => row_c ?_); by_cases q : i = c.toNat <;> simp_all [enC, fCl, upd, clOf, nth, AV.cells, avI_s, avI_i, ofVal, cellOf]; done)
  | false =>
    have g1 := of_decide_eq_false h1
    try simp only [Int.ofNat_eq_natCast, ge_iff_le, gt_iff_lt, Int.not_lt, Int.not_le] at g1
    cases h2 : (decide (c ≥ Int.ofNat n)) with
    | true =>
      have g2 := of_decide_eq_true h2
      try simp only [Int.ofNat_eq_natCast, ge_iff_le, gt_iff_lt, Int.not_lt, Int.not_le] at g2
      first | (have hE : (enE n (fCl f) last c s) = 0 := by (simp_all [enE, fCl, clOf]; done)) | (have hE : (enE n (fCl f) last c s) = 0 := by (simp_all [enE, fCl, clOf]; omega)) | (have hE : (enE n (fCl f) last c s) = 1 := by (simp_all [enE, fCl, clOf]; done)) | (have hE : (enE n (fCl f) last c s) = 1 := by (simp_all [enE, fCl, clOf]; omega)) | (have hE : (enE n (fCl f) last c s) = 4 := by (simp_all [enE, fCl, clOf]; done)) | (have hE : (enE n (fCl f) last c s) = 4 := by (simp_all [enE, fCl, clOf]; omega))
      refine ⟨2000, _, _, _, hen_2 .., (ob_cons ?_ (ob_cons rfl (ob_cons rfl (ob_cons rfl (ob_cons ?_ (ob_cons rfl (ob_cons ?_ (ob_cons ?_ (ob_cons ?_ (ob_cons h2 (ob_cons h1 ob_nil)))))))))))⟩
      ·
        first | rfl | (exfalso; omega) | (rw [hE]; done) | exact hE.symm | (rw [hE]; rfl) | (rw [hE]; exact hl) | (rw [hE]; exact Nat.le_refl _) | (rw [hE]; exact fun _ => rfl) | (rw [hE]; intro q; simp [onOk, fCl, upd, clOf, nth, AV.cells, avI_s, avI_i, ofVal, cellOf]; done) | (rw [hE]; refine .inr (fun i hi => row_c ?_); simp [enC, fCl, hE]; done) | (rw [hE]; refine .inr (fun i hi => row_c ?_); by_cases q : i = c.toNat <;> simp_all [enC, fCl, upd, clOf, nth, AV.cells, avI_s, avI_i, ofVal, cellOf]; done)
      ·
        first | rfl | (exfalso; omega) | (rw [hE]; done) | exact hE.symm | (rw [hE]; rfl) | (rw [hE]; exact hl) | (rw [hE]; exact Nat.le_refl _) | (rw [hE]; exact fun _ => rfl) | (rw [hE]; intro q; simp [onOk, fCl, upd, clOf, nth, AV.cells, avI_s, avI_i, ofVal, cellOf]; done) | (rw [hE]; refine .inr (fun i hi => row_c ?_); simp [enC, fCl, hE]; done) | (rw [hE]; refine .inr (fun i hi => row_c ?_); by_cases q : i = c.toNat <;> simp_all [enC, fCl, upd, clOf, nth, AV.cells, avI_s, avI_i, ofVal, cellOf]; done)
      ·
        first | exact Nat.le_refl _ | omega | (exfalso; omega) | (rw [hE]; done) | exact hE.symm | (rw [hE]; rfl) | (rw [hE]; exact hl) | (rw [hE]; exact Nat.le_refl _) | (rw [hE]; exact fun _ => rfl) | (rw [hE]; intro q; simp [onOk, fCl, upd, clOf, nth, AV.cells, avI_s, avI_i, ofVal, cellOf]; done) | (rw [hE]; refine .inr (fun i hi => row_c ?_); simp [enC, fCl, hE]; done) | (rw [hE]; refine .inr (fun i hi => row_c ?_); by_cases q : i = c.toNat <;> simp_all [enC, fCl, upd, clOf, nth, AV.cells, avI_s, avI_i, ofVal, cellOf]; done)
      ·
        first | exact .inl ⟨rfl, rfl⟩ | (exfalso; omega) | (rw [hE]; done) | exact hE.symm | (rw [hE]; rfl) | (rw [hE]; exact hl) | (rw [hE]; exact Nat.le_refl _) | (rw [hE]; exact fun _ => rfl) | (rw [hE]; intro q; simp [onOk, fCl, upd, clOf, nth, AV.cells, avI_s, avI_i, ofVal, cellOf]; done) | (rw [hE]; refine .inr (fun i hi => row_c ?_); simp [enC, fCl, hE]; done) | (rw [hE]; refine .inr (fun i hi => row_c ?_); by_cases q : i = c.toNat <;> simp_all [enC, fCl, upd, clOf, nth, AV.cells, avI_s, avI_i, ofVal, cellOf]; done)
      ·
        first | exact fun _ => rfl | (exfalso; omega) | (rw [hE]; done) | exact hE.symm | (rw [hE]; rfl) | (rw [hE]; exact hl) | (rw [hE]; exact Nat.le_refl _) | (rw [hE]; exact fun _ => rfl) | (rw [hE]; intro q; simp [onOk, fCl, upd, clOf, nth, AV.cells, avI_s, avI_i, ofVal, cellOf]; done) | (rw [hE]; refine .inr (fun i hi => row_c ?_); simp [enC, fCl, hE]; done) | (rw [hE]; refine .inr (fun i hi => row_c ?_); by_cases q : i = c.toNat <;> simp_all [enC, fCl, upd, clOf, nth, AV.cells, avI_s, avI_i, ofVal, cellOf]; done)
    | false =>
      have g2 := of_decide_eq_false h2
      try simp only [Int.ofNat_eq_natCast, ge_iff_le, gt_iff_lt, Int.not_lt, Int.not_le] at g2
      cases h3 : (decide (s < last)) with
      | true =>
        have g3 := of_decide_eq_true h3
        try simp only [Int.ofNat_eq_natCast, ge_iff_le, gt_iff_lt, Int.not_lt, Int.not_le] at g3
        first | (have hE : (enE n (fCl f) last c s) = 0 := by (simp_all [enE, fCl, clOf]; done)) | (have hE : (enE n (fCl f) last c s) = 0 := by (simp_all [enE, fCl, clOf]; omega)) | (have hE : (enE n (fCl f) last c s) = 1 := by (simp_all [enE, fCl, clOf]; done)) | (have hE : (enE n (fCl f) last c s) = 1 := by (simp_all [enE, fCl, clOf]; omega)) | (have hE : (enE n (fCl f) last c s) = 4 := by (simp_all [enE, fCl, clOf]; done)) | (have hE : (enE n (fCl f) last c s) = 4 := by (simp_all [enE, fCl, clOf]; omega))
        refine ⟨2000, _, _, _, hen_3 .., (ob_cons ?_ (ob_cons rfl (ob_cons rfl (ob_cons rfl (ob_cons ?_ (ob_cons rfl (ob_cons ?_ (ob_cons ?_ (ob_cons ?_ (ob_cons h3 (ob_cons ?_ (ob_cons ?_ (ob_cons ?_ (ob_cons ?_ (ob_cons h2 (ob_cons h1 ob_nil))))))))))))))))⟩
        ·
          first | rfl | (exfalso; omega) | (rw [hE]; done) | exact hE.symm | (rw [hE]; rfl) | (rw [hE]; exact hl) | (rw [hE]; exact Nat.le_refl _) | (rw [hE]; exact fun _ => rfl) | (rw [hE]; intro q; simp [onOk, fCl, upd, clOf, nth, AV.cells, avI_s, avI_i, ofVal, cellOf]; done) | (rw [hE]; refine .inr (fun i hi => row_c ?_); simp [enC, fCl, hE]; done) | (rw [hE]; refine .inr (fun i hi => row_c ?_); by_cases q : i = c.toNat <;> simp_all [enC, fCl, upd, clOf, nth, AV.cells, avI_s, avI_i, ofVal, cellOf]; done)
        ·
          first | rfl | (exfalso; omega) | (rw [hE]; done) | exact hE.symm | (rw [hE]; rfl) | (rw [hE]; exact hl) | (rw [hE]; exact Nat.le_refl _) | (rw [hE]; exact fun _ => rfl) | (rw [hE]; intro q; simp [onOk, fCl, upd, clOf, nth, AV.cells, avI_s, avI_i, ofVal, cellOf]; done) | (rw [hE]; refine .inr (fun i hi => row_c ?_); simp [enC, fCl, hE]; done) | (rw [hE]; refine .inr (fun i hi => row_c ?_); by_cases q : i = c.toNat <;> simp_all [enC, fCl, upd, clOf, nth, AV.cells, avI_s, avI_i, ofVal, cellOf]; done)
        ·
          first | exact Nat.le_refl _ | omega | (exfalso; omega) | (rw [hE]; done) | exact hE.symm | (rw [hE]; rfl) | (rw [hE]; exact hl) | (rw [hE]; exact Nat.le_refl _) | (rw [hE]; exact fun _ => rfl) | (rw [hE]; intro q; simp [onOk, fCl, upd, clOf, nth, AV.cells, avI_s, avI_i, ofVal, cellOf]; done) | (rw [hE]; refine .inr (fun i hi => row_c ?_); simp [enC, fCl, hE]; done) | (rw [hE]; refine .inr (fun i hi => row_c ?_); by_cases q : i = c.toNat <;> simp_all [enC, fCl, upd, clOf, nth, AV.cells, avI_s, avI_i, ofVal, cellOf]; done)
        ·
          first | exact .inl ⟨rfl, rfl⟩ | (exfalso; omega) | (rw [hE]; done) | exact hE.symm | (rw [hE]; rfl) | (rw [hE]; exact hl) | (rw [hE]; exact Nat.le_refl _) | (rw [hE]; exact fun _ => rfl) | (rw [hE]; intro q; simp [onOk, fCl, upd, clOf, nth, AV.cells, avI_s, avI_i, ofVal, cellOf]; done) | (rw [hE]; refine .inr (fun i hi => row_c ?_); simp [enC, fCl, hE]; done) | (rw [hE]; refine .inr (fun i hi => row_c ?_); by_cases q : i = c.toNat <;> simp_all [enC, fCl, upd, clOf, nth, AV.cells, avI_s, avI_i, ofVal, cellOf]; done)
        ·
          first | exact fun _ => rfl | (exfalso; omega) | (rw [hE]; done) | exact hE.symm | (rw [hE]; rfl) | (rw [hE]; exact hl) | (rw [hE]; exact Nat.le_refl _) | (rw [hE]; exact fun _ => rfl) | (rw [hE]; intro q; simp [onOk, fCl, upd, clOf, nth, AV.cells, avI_s, avI_i, ofVal, cellOf]; done) | (rw [hE]; refine .inr (fun i hi => row_c ?_); simp [enC, fCl, hE]; done) | (rw [hE]; refine .inr (fun i hi => row_c ?_); by_cases q : i = c.toNat <;> simp_all [enC, fCl, upd, clOf, nth, AV.cells, avI_s, avI_i, ofVal, cellOf]; done)
        ·
          first | (apply Nat.ble_eq_true_of_le; omega) | (simp [Nat.blt_eq]; omega) | (exfalso; omega) | (rw [hE]; done) | exact hE.symm | (rw [hE]; rfl) | (rw [hE]; exact hl) | (rw [hE]; exact Nat.le_refl _) | (rw [hE]; exact fun _ => rfl) | (rw [hE]; intro q; simp [onOk, fCl, upd, clOf, nth, AV.cells, avI_s, avI_i, ofVal, cellOf]; done) | (rw [hE]; refine .inr (fun i hi => row_c ?_); simp [enC, fCl, hE]; done) | (rw [hE]; refine .inr (fun i hi => row_c ?_); by_cases q : i = c.toNat <;> simp_all [enC, fCl, upd, clOf, nth, AV.cells, avI_s, avI_i, ofVal, cellOf]; done)
        ·
          first | (apply Nat.ble_eq_true_of_le; omega) | (simp [Nat.blt_eq]; omega) | (exfalso; omega) | (rw [hE]; done) | exact hE.symm | (rw [hE]; rfl) | (rw [hE]; exact hl) | (rw [hE]; exact Nat.le_refl _) | (rw [hE]; exact fun _ => rfl) | (rw [hE]; intro q; simp [onOk, fCl, upd, clOf, nth, AV.cells, avI_s, avI_i, ofVal, cellOf]; done) | (rw [hE]; refine .inr (fun i hi => row_c ?_); simp [enC, fCl, hE]; done) | (rw [hE]; refine .inr (fun i hi => row_c ?_); by_cases q : i = c.toNat <;> simp_all [enC, fCl, upd, clOf, nth, AV.cells, avI_s, avI_i, ofVal, cellOf]; done)
        ·
          first | (apply Nat.ble_eq_true_of_le; omega) | (simp [Nat.blt_eq]; omega) | (exfalso; omega) | (rw [hE]; done) | exact hE.symm | (rw [hE]; rfl) | (rw [hE]; exact hl) | (rw [hE]; exact Nat.le_refl _) | (rw [hE]; exact fun _ => rfl) | (rw [hE]; intro q; simp [onOk, fCl, upd, clOf, nth, AV.cells, avI_s, avI_i, ofVal, cellOf]; done) | (rw [hE]; refine .inr (fun i hi => row_c ?_); simp [enC, fCl, hE]; done) | (rw [hE]; refine .inr (fun i hi => row_c ?_); by_cases q : i = c.toNat <;> simp_all [enC, fCl, upd, clOf, nth, AV.cells, avI_s, avI_i, ofVal, cellOf]; done)
        ·
          first | (apply Nat.ble_eq_true_of_le; omega) | (simp [Nat.blt_eq]; omega) | (exfalso; omega) | (rw [hE]; done) | exact hE.symm | (rw [hE]; rfl) | (rw [hE]; exact hl) | (rw [hE]; exact Nat.le_refl _) | (rw [hE]; exact fun _ => rfl) | (rw [hE]; intro q; simp [onOk, fCl, upd, clOf, nth, AV.cells, avI_s, avI_i, ofVal, cellOf]; done) | (rw [hE]; refine .inr (fun i hi => row_c ?_); simp [enC, fCl, hE]; done) | (rw [hE]; refine .inr (fun i hi => row_c ?_); by_cases q : i = c.toNat <;> simp_all [enC, fCl, upd, clOf, nth, AV.cells, avI_s, avI_i, ofVal, cellOf]; done)
      | false =>
        have g3 := of_decide_eq_false h3
        try simp only [Int.ofNat_eq_natCast, ge_iff_le, gt_iff_lt, Int.not_lt, Int.not_le] at g3
        cases h4 : (avInt (f (0 + c.toNat) 8) != -1) with
        | true =>
          first | (have hE : (enE n (fCl f) last c s) = 0 := by (simp_all [enE, fCl, clOf]; done)) | (have hE : (enE n (fCl f) last c s) = 0 := by (simp_all [enE, fCl, clOf]; omega)) | (have hE : (enE n (fCl f) last c s) = 1 := by (simp_all [enE, fCl, clOf]; done)) | (have hE : (enE n (fCl f) last c s) = 1 := by (simp_all [enE, fCl, clOf]; omega)) | (have hE : (enE n (fCl f) last c s) = 4 := by (simp_all [enE, fCl, clOf]; done)) | (have hE : (enE n (fCl f) last c s) = 4 := by (simp_all [enE, fCl, clOf]; omega))
          refine ⟨2000, _, _, _, hen_4 .., (ob_cons ?_ (ob_cons rfl (ob_cons rfl (ob_cons rfl (ob_cons ?_ (ob_cons rfl (ob_cons ?_ (ob_cons ?_ (ob_cons ?_ (ob_cons h4 (ob_cons h3 (ob_cons ?_ (ob_cons ?_ (ob_cons ?_ (ob_cons ?_ (ob_cons h2 (ob_cons h1 ob_nil)))))))))))))))))⟩
          ·
            first | rfl | (exfalso; omega) | (rw [hE]; done) | exact hE.symm | (rw [hE]; rfl) | (rw [hE]; exact hl) | (rw [hE]; exact Nat.le_refl _) | (rw [hE]; exact fun _ => rfl) | (rw [hE]; intro q; simp [onOk, fCl, upd, clOf, nth, AV.cells, avI_s, avI_i, ofVal, cellOf]; done) | (rw [hE]; refine .inr (fun i hi => row_c ?_); simp [enC, fCl, hE]; done) | (rw [hE]; refine .inr (fun i hi => row_c ?_); by_cases q : i = c.toNat <;> simp_all [enC, fCl, upd, clOf, nth, AV.cells, avI_s, avI_i, ofVal, cellOf]; done)
          ·
            first | rfl | (exfalso; omega) | (rw [hE]; done) | exact hE.symm | (rw [hE]; rfl) | (rw [hE]; exact hl) | (rw [hE]; exact Nat.le_refl _) | (rw [hE]; exact fun _ => rfl) | (rw [hE]; intro q; simp [onOk, fCl, upd, clOf, nth, AV.cells, avI_s, avI_i, ofVal, cellOf]; done) | (rw [hE]; refine .inr (fun i hi => row_c ?_); simp [enC, fCl, hE]; done) | (rw [hE]; refine .inr (fun i hi => row_c ?_); by_cases q : i = c.toNat <;> simp_all [enC, fCl, upd, clOf, nth, AV.cells, avI_s, avI_i, ofVal, cellOf]; done)
          ·
            first | exact Nat.le_refl _ | omega | (exfalso; omega) | (rw [hE]; done) | exact hE.symm | (rw [hE]; rfl) | (rw [hE]; exact hl) | (rw [hE]; exact Nat.le_refl _) | (rw [hE]; exact fun _ => rfl) | (rw [hE]; intro q; simp [onOk, fCl, upd, clOf, nth, AV.cells, avI_s, avI_i, ofVal, cellOf]; done) | (rw [hE]; refine .inr (fun i hi => row_c ?_); simp [enC, fCl, hE]; done) | (rw [hE]; refine .inr (fun i hi => row_c ?_); by_cases q : i = c.toNat <;> simp_all [enC, fCl, upd, clOf, nth, AV.cells, avI_s, avI_i, ofVal, cellOf]; done)
          ·
            first | exact .inl ⟨rfl, rfl⟩ | (exfalso; omega) | (rw [hE]; done) | exact hE.symm | (rw [hE]; rfl) | (rw [hE]; exact hl) | (rw [hE]; exact Nat.le_refl _) | (rw [hE]; exact fun _ => rfl) | (rw [hE]; intro q; simp [onOk, fCl, upd, clOf, nth, AV.cells, avI_s, avI_i, ofVal, cellOf]; done) | (rw [hE]; refine .inr (fun i hi => row_c ?_); simp [enC, fCl, hE]; done) | (rw [hE]; refine .inr (fun i hi => row_c ?_); by_cases q : i = c.toNat <;> simp_all [enC, fCl, upd, clOf, nth, AV.cells, avI_s, avI_i, ofVal, cellOf]; done)
          ·
            first | exact fun _ => rfl | (exfalso; omega) | (rw [hE]; done) | exact hE.symm | (rw [hE]; rfl) | (rw [hE]; exact hl) | (rw [hE]; exact Nat.le_refl _) | (rw [hE]; exact fun _ => rfl) | (rw [hE]; intro q; simp [onOk, fCl, upd, clOf, nth, AV.cells, avI_s, avI_i, ofVal, cellOf]; done) | (rw [hE]; refine .inr (fun i hi => row_c ?_); simp [enC, fCl, hE]; done) | (rw [hE]; refine .inr (fun i hi => row_c ?_); by_cases q : i = c.toNat <;> simp_all [enC, fCl, upd, clOf, nth, AV.cells, avI_s, avI_i, ofVal, cellOf]; done)
          ·
            first | (apply Nat.ble_eq_true_of_le; omega) | (simp [Nat.blt_eq]; omega) | (exfalso; omega) | (rw [hE]; done) | exact hE.symm | (rw [hE]; rfl) | (rw [hE]; exact hl) | (rw [hE]; exact Nat.le_refl _) | (rw [hE]; exact fun _ => rfl) | (rw [hE]; intro q; simp [onOk, fCl, upd, clOf, nth, AV.cells, avI_s, avI_i, ofVal, cellOf]; done) | (rw [hE]; refine .inr (fun i hi => row_c ?_); simp [enC, fCl, hE]; done) | (rw [hE]; refine .inr (fun i hi => row_c ?_); by_cases q : i = c.toNat <;> simp_all [enC, fCl, upd, clOf, nth, AV.cells, avI_s, avI_i, ofVal, cellOf]; done)
          ·
            first | (apply Nat.ble_eq_true_of_le; omega) | (simp [Nat.blt_eq]; omega) | (exfalso; omega) | (rw [hE]; done) | exact hE.symm | (rw [hE]; rfl) | (rw [hE]; exact hl) | (rw [hE]; exact Nat.le_refl _) | (rw [hE]; exact fun _ => rfl) | (rw [hE]; intro q; simp [onOk, fCl, upd, clOf, nth, AV.cells, avI_s, avI_i, ofVal, cellOf]; done) | (rw [hE]; refine .inr (fun i hi => row_c ?_); simp [enC, fCl, hE]; done) | (rw [hE]; refine .inr (fun i hi => row_c ?_); by_cases q : i = c.toNat <;> simp_all [enC, fCl, upd, clOf, nth, AV.cells, avI_s, avI_i, ofVal, cellOf]; done)
          ·
            first | (apply Nat.ble_eq_true_of_le; omega) | (simp [Nat.blt_eq]; omega) | (exfalso; omega) | (rw [hE]; done) | exact hE.symm | (rw [hE]; rfl) | (rw [hE]; exact hl) | (rw [hE]; exact Nat.le_refl _) | (rw [hE]; exact fun _ => rfl) | (rw [hE]; intro q; simp [onOk, fCl, upd, clOf, nth, AV.cells, avI_s, avI_i, ofVal, cellOf]; done) | (rw [hE]; refine .inr (fun i hi => row_c ?_); simp [enC, fCl, hE]; done) | (rw [hE]; refine .inr (fun i hi => row_c ?_); by_cases q : i = c.toNat <;> simp_all [enC, fCl, upd, clOf, nth, AV.cells, avI_s, avI_i, ofVal, cellOf]; done)
          ·
            first | (apply Nat.ble_eq_true_of_le; omega) | (simp [Nat.blt_eq]; omega) | (exfalso; omega) | (rw [hE]; done) | exact hE.symm | (rw [hE]; rfl) | (rw [hE]; exact hl) | (rw [hE]; exact Nat.le_refl _) | (rw [hE]; exact fun _ => rfl) | (rw [hE]; intro q; simp [onOk, fCl, upd, clOf, nth, AV.cells, avI_s, avI_i, ofVal, cellOf]; done) | (rw [hE]; refine .inr (fun i hi => row_c ?_); simp [enC, fCl, hE]; done) | (rw [hE]; refine .inr (fun i hi => row_c ?_); by_cases q : i = c.toNat <;> simp_all [enC, fCl, upd, clOf, nth, AV.cells, avI_s, avI_i, ofVal, cellOf]; done)
        | false =>
          cases h5 : (avInt (upd f (0 + c.toNat) 8 (AV.sym IntKind.i64 s).cells (0 + c.toNat) 7) == -1) with
          | true =>
            first | (have hE : (enE n (fCl f) last c s) = 0 := by (simp_all [enE, fCl, clOf]; done)) | (have hE : (enE n (fCl f) last c s) = 0 := by (simp_all [enE, fCl, clOf]; omega)) | (have hE : (enE n (fCl f) last c s) = 1 := by (simp_all [enE, fCl, clOf]; done)) | (have hE : (enE n (fCl f) last c s) = 1 := by (simp_all [enE, fCl, clOf]; omega)) | (have hE : (enE n (fCl f) last c s) = 4 := by (simp_all [enE, fCl, clOf]; done)) | (have hE : (enE n (fCl f) last c s) = 4 := by (simp_all [enE, fCl, clOf]; omega))
            refine ⟨2000, _, _, _, hen_5 .., (ob_cons ?_ (ob_cons rfl (ob_cons rfl (ob_cons rfl (ob_cons ?_ (ob_cons rfl (ob_cons ?_ (ob_cons ?_ (ob_cons ?_ (ob_cons ?_ (ob_cons ?_ (ob_cons h5 (ob_cons ?_ (ob_cons ?_ (ob_cons ?_ (ob_cons h4 (ob_cons h3 (ob_cons ?_ (ob_cons ?_ (ob_cons ?_ (ob_cons ?_ (ob_cons h2 (ob_cons h1 ob_nil)))))))))))))))))))))))⟩
            ·
              first | rfl | (exfalso; omega) | (rw [hE]; done) | exact hE.symm | (rw [hE]; rfl) | (rw [hE]; exact hl) | (rw [hE]; exact Nat.le_refl _) | (rw [hE]; exact fun _ => rfl) | (rw [hE]; intro q; simp [onOk, fCl, upd, clOf, nth, AV.cells, avI_s, avI_i, ofVal, cellOf]; done) | (rw [hE]; refine .inr (fun i hi => row_c ?_); simp [enC, fCl, hE]; done) | (rw [hE]; refine .inr (fun i hi => row_c ?_); by_cases q : i = c.toNat <;> simp_all [enC, fCl, upd, clOf, nth, AV.cells, avI_s, avI_i, ofVal, cellOf]; done)
            ·
              first | rfl | (exfalso; omega) | (rw [hE]; done) | exact hE.symm | (rw [hE]; rfl) | (rw [hE]; exact hl) | (rw [hE]; exact Nat.le_refl _) | (rw [hE]; exact fun _ => rfl) | (rw [hE]; intro q; simp [onOk, fCl, upd, clOf, nth, AV.cells, avI_s, avI_i, ofVal, cellOf]; done) | (rw [hE]; refine .inr (fun i hi => row_c ?_); simp [enC, fCl, hE]; done) | (rw [hE]; refine .inr (fun i hi => row_c ?_); by_cases q : i = c.toNat <;> simp_all [enC, fCl, upd, clOf, nth, AV.cells, avI_s, avI_i, ofVal, cellOf]; done)
            ·
              first | exact Nat.le_refl _ | omega | (exfalso; omega) | (rw [hE]; done) | exact hE.symm | (rw [hE]; rfl) | (rw [hE]; exact hl) | (rw [hE]; exact Nat.le_refl _) | (rw [hE]; exact fun _ => rfl) | (rw [hE]; intro q; simp [onOk, fCl, upd, clOf, nth, AV.cells, avI_s, avI_i, ofVal, cellOf]; done) | (rw [hE]; refine .inr (fun i hi => row_c ?_); simp [enC, fCl, hE]; done) | (rw [hE]; refine .inr (fun i hi => row_c ?_); by_cases q : i = c.toNat <;> simp_all [enC, fCl, upd, clOf, nth, AV.cells, avI_s, avI_i, ofVal, cellOf]; done)
            ·
              first | exact .inl ⟨rfl, rfl⟩ | (exfalso; omega) | (rw [hE]; done) | exact hE.symm | (rw [hE]; rfl) | (rw [hE]; exact hl) | (rw [hE]; exact Nat.le_refl _) | (rw [hE]; exact fun _ => rfl) | (rw [hE]; intro q; simp [onOk, fCl, upd, clOf, nth, AV.cells, avI_s, avI_i, ofVal, cellOf]; done) | (rw [hE]; refine .inr (fun i hi => row_c ?_); simp [enC, fCl, hE]; done) | (rw [hE]; refine .inr (fun i hi => row_c ?_); by_cases q : i = c.toNat <;> simp_all [enC, fCl, upd, clOf, nth, AV.cells, avI_s, avI_i, ofVal, cellOf]; done)
            ·
              first | exact fun _ => rfl | (exfalso; omega) | (rw [hE]; done) | exact hE.symm | (rw [hE]; rfl) | (rw [hE]; exact hl) | (rw [hE]; exact Nat.le_refl _) | (rw [hE]; exact fun _ => rfl) | (rw [hE]; intro q; simp [onOk, fCl, upd, clOf, nth, AV.cells, avI_s, avI_i, ofVal, cellOf]; done) | (rw [hE]; refine .inr (fun i hi => row_c ?_); simp [enC, fCl, hE]; done) | (rw [hE]; refine .inr (fun i hi => row_c ?_); by_cases q : i = c.toNat <;> simp_all [enC, fCl, upd, clOf, nth, AV.cells, avI_s, avI_i, ofVal, cellOf]; done)
            ·
              first | (apply Nat.ble_eq_true_of_le; omega) | (simp [Nat.blt_eq]; omega) | (exfalso; omega) | (rw [hE]; done) | exact hE.symm | (rw [hE]; rfl) | (rw [hE]; exact hl) | (rw [hE]; exact Nat.le_refl _) | (rw [hE]; exact fun _ => rfl) | (rw [hE]; intro q; simp [onOk, fCl, upd, clOf, nth, AV.cells, avI_s, avI_i, ofVal, cellOf]; done) | (rw [hE]; refine .inr (fun i hi => row_c ?_); simp [enC, fCl, hE]; done) | (rw [hE]; refine .inr (fun i hi => row_c ?_); by_cases q : i = c.toNat <;> simp_all [enC, fCl, upd, clOf, nth, AV.cells, avI_s, avI_i, ofVal, cellOf]; done)
            ·
              first | (apply Nat.ble_eq_true_of_le; omega) | (simp [Nat.blt_eq]; omega) | (exfalso; omega) | (rw [hE]; done) | exact hE.symm | (rw [hE]; rfl) | (rw [hE]; exact hl) | (rw [hE]; exact Nat.le_refl _) | (rw [hE]; exact fun _ => rfl) | (rw [hE]; intro q; simp [onOk, fCl, upd, clOf, nth, AV.cells, avI_s, avI_i, ofVal, cellOf]; done) | (rw [hE]; refine .inr (fun i hi => row_c ?_); simp [enC, fCl, hE]; done) | (rw [hE]; refine .inr (fun i hi => row_c ?_); by_cases q : i = c.toNat <;> simp_all [enC, fCl, upd, clOf, nth, AV.cells, avI_s, avI_i, ofVal, cellOf]; done)
            ·
              first | (apply Nat.ble_eq_true_of_le; omega) | (simp [Nat.blt_eq]; omega) | (exfalso; omega) | (rw [hE]; done) | exact hE.symm | (rw [hE]; rfl) | (rw [hE]; exact hl) | (rw [hE]; exact Nat.le_refl _) | (rw [hE]; exact fun _ => rfl) | (rw [hE]; intro q; simp [onOk, fCl, upd, clOf, nth, AV.cells, avI_s, avI_i, ofVal, cellOf]; done) | (rw [hE]; refine .inr (fun i hi => row_c ?_); simp [enC, fCl, hE]; done) | (rw [hE]; refine .inr (fun i hi => row_c ?_); by_cases q : i = c.toNat <;> simp_all [enC, fCl, upd, clOf, nth, AV.cells, avI_s, avI_i, ofVal, cellOf]; done)
            ·
              first | (apply Nat.ble_eq_true_of_le; omega) | (simp [Nat.blt_eq]; omega) | (exfalso; omega) | (rw [hE]; done) | exact hE.symm | (rw [hE]; rfl) | (rw [hE]; exact hl) | (rw [hE]; exact Nat.le_refl _) | (rw [hE]; exact fun _ => rfl) | (rw [hE]; intro q; simp [onOk, fCl, upd, clOf, nth, AV.cells, avI_s, avI_i, ofVal, cellOf]; done) | (rw [hE]; refine .inr (fun i hi => row_c ?_); simp [enC, fCl, hE]; done) | (rw [hE]; refine .inr (fun i hi => row_c ?_); by_cases q : i = c.toNat <;> simp_all [enC, fCl, upd, clOf, nth, AV.cells, avI_s, avI_i, ofVal, cellOf]; done)
            ·
              first | (apply Nat.ble_eq_true_of_le; omega) | (simp [Nat.blt_eq]; omega) | (exfalso; omega) | (rw [hE]; done) | exact hE.symm | (rw [hE]; rfl) | (rw [hE]; exact hl) | (rw [hE]; exact Nat.le_refl _) | (rw [hE]; exact fun _ => rfl) | (rw [hE]; intro q; simp [onOk, fCl, upd, clOf, nth, AV.cells, avI_s, avI_i, ofVal, cellOf]; done) | (rw [hE]; refine .inr (fun i hi => row_c ?_); simp [enC, fCl, hE]; done) | (rw [hE]; refine .inr (fun i hi => row_c ?_); by_cases q : i = c.toNat <;> simp_all [enC, fCl, upd, clOf, nth, AV.cells, avI_s, avI_i, ofVal, cellOf]; done)
            ·
              first | (apply Nat.ble_eq_true_of_le; omega) | (simp [Nat.blt_eq]; omega) | (exfalso; omega) | (rw [hE]; done) | exact hE.symm | (rw [hE]; rfl) | (rw [hE]; exact hl) | (rw [hE]; exact Nat.le_refl _) | (rw [hE]; exact fun _ => rfl) | (rw [hE]; intro q; simp [onOk, fCl, upd, clOf, nth, AV.cells, avI_s, avI_i, ofVal, cellOf]; done) | (rw [hE]; refine .inr (fun i hi => row_c ?_); simp [enC, fCl, hE]; done) | (rw [hE]; refine .inr (fun i hi => row_c ?_); by_cases q : i = c.toNat <;> simp_all [enC, fCl, upd, clOf, nth, AV.cells, avI_s, avI_i, ofVal, cellOf]; done)
            ·
              first | (apply Nat.ble_eq_true_of_le; omega) | (simp [Nat.blt_eq]; omega) | (exfalso; omega) | (rw [hE]; done) | exact hE.symm | (rw [hE]; rfl) | (rw [hE]; exact hl) | (rw [hE]; exact Nat.le_refl _) | (rw [hE]; exact fun _ => rfl) | (rw [hE]; intro q; simp [onOk, fCl, upd, clOf, nth, AV.cells, avI_s, avI_i, ofVal, cellOf]; done) | (rw [hE]; refine .inr (fun i hi => row_c ?_); simp [enC, fCl, hE]; done) | (rw [hE]; refine .inr (fun i hi => row_c ?_); by_cases q : i = c.toNat <;> simp_all [enC, fCl, upd, clOf, nth, AV.cells, avI_s, avI_i, ofVal, cellOf]; done)
            ·
              first | (apply Nat.ble_eq_true_of_le; omega) | (simp [Nat.blt_eq]; omega) | (exfalso; omega) | (rw [hE]; done) | exact hE.symm | (rw [hE]; rfl) | (rw [hE]; exact hl) | (rw [hE]; exact Nat.le_refl _) | (rw [hE]; exact fun _ => rfl) | (rw [hE]; intro q; simp [onOk, fCl, upd, clOf, nth, AV.cells, avI_s, avI_i, ofVal, cellOf]; done) | (rw [hE]; refine .inr (fun i hi => row_c ?_); simp [enC, fCl, hE]; done) | (rw [hE]; refine .inr (fun i hi => row_c ?_); by_cases q : i = c.toNat <;> simp_all [enC, fCl, upd, clOf, nth, AV.cells, avI_s, avI_i, ofVal, cellOf]; done)
            ·
              first | (apply Nat.ble_eq_true_of_le; omega) | (simp [Nat.blt_eq]; omega) | (exfalso; omega) | (rw [hE]; done) | exact hE.symm | (rw [hE]; rfl) | (rw [hE]; exact hl) | (rw [hE]; exact Nat.le_refl _) | (rw [hE]; exact fun _ => rfl) | (rw [hE]; intro q; simp [onOk, fCl, upd, clOf, nth, AV.cells, avI_s, avI_i, ofVal, cellOf]; done) | (rw [hE]; refine .inr (fun i hi => row_c ?_); simp [enC, fCl, hE]; done) | (rw [hE]; refine .inr (fun i hi => row_c ?_); by_cases q : i = c.toNat <;> simp_all [enC, fCl, upd, clOf, nth, AV.cells, avI_s, avI_i, ofVal, cellOf]; done)
          | false =>
            first | (have hE : (enE n (fCl f) last c s) = 0 := by (simp_all [enE, fCl, clOf]; done)) | (have hE : (enE n (fCl f) last c s) = 0 := by (simp_all [enE, fCl, clOf]; omega)) | (have hE : (enE n (fCl f) last c s) = 1 := by (simp_all [enE, fCl, clOf]; done)) | (have hE : (enE n (fCl f) last c s) = 1 := by (simp_all [enE, fCl, clOf]; omega)) | (have hE : (enE n (fCl f) last c s) = 4 := by (simp_all [enE, fCl, clOf]; done)) | (have hE : (enE n (fCl f) last c s) = 4 := by (simp_all [enE, fCl, clOf]; omega))
            refine ⟨2000, _, _, _, hen_6 .., (ob_cons ?_ (ob_cons rfl (ob_cons rfl (ob_cons rfl (ob_cons ?_ (ob_cons rfl (ob_cons ?_ (ob_cons ?_ (ob_cons ?_ (ob_cons ?_ (ob_cons h5 (ob_cons ?_ (ob_cons ?_ (ob_cons ?_ (ob_cons h4 (ob_cons h3 (ob_cons ?_ (ob_cons ?_ (ob_cons ?_ (ob_cons ?_ (ob_cons h2 (ob_cons h1 ob_nil))))))))))))))))))))))⟩
            ·
              first | rfl | (exfalso; omega) | (rw [hE]; done) | exact hE.symm | (rw [hE]; rfl) | (rw [hE]; exact hl) | (rw [hE]; exact Nat.le_refl _) | (rw [hE]; exact fun _ => rfl) | (rw [hE]; intro q; simp [onOk, fCl, upd, clOf, nth, AV.cells, avI_s, avI_i, ofVal, cellOf]; done) | (rw [hE]; refine .inr (fun i hi => row_c ?_); simp [enC, fCl, hE]; done) | (rw [hE]; refine .inr (fun i hi => row_c ?_); by_cases q : i = c.toNat <;> simp_all [enC, fCl, upd, clOf, nth, AV.cells, avI_s, avI_i, ofVal, cellOf]; done)
            ·
              first | rfl | (exfalso; omega) | (rw [hE]; done) | exact hE.symm | (rw [hE]; rfl) | (rw [hE]; exact hl) | (rw [hE]; exact Nat.le_refl _) | (rw [hE]; exact fun _ => rfl) | (rw [hE]; intro q; simp [onOk, fCl, upd, clOf, nth, AV.cells, avI_s, avI_i, ofVal, cellOf]; done) | (rw [hE]; refine .inr (fun i hi => row_c ?_); simp [enC, fCl, hE]; done) | (rw [hE]; refine .inr (fun i hi => row_c ?_); by_cases q : i = c.toNat <;> simp_all [enC, fCl, upd, clOf, nth, AV.cells, avI_s, avI_i, ofVal, cellOf]; done)
            ·
              first | exact Nat.le_refl _ | omega | (exfalso; omega) | (rw [hE]; done) | exact hE.symm | (rw [hE]; rfl) | (rw [hE]; exact hl) | (rw [hE]; exact Nat.le_refl _) | (rw [hE]; exact fun _ => rfl) | (rw [hE]; intro q; simp [onOk, fCl, upd, clOf, nth, AV.cells, avI_s, avI_i, ofVal, cellOf]; done) | (rw [hE]; refine .inr (fun i hi => row_c ?_); simp [enC, fCl, hE]; done) | (rw [hE]; refine .inr (fun i hi => row_c ?_); by_cases q : i = c.toNat <;> simp_all [enC, fCl, upd, clOf, nth, AV.cells, avI_s, avI_i, ofVal, cellOf]; done)
            ·
              first | exact .inl ⟨rfl, rfl⟩ | (exfalso; omega) | (rw [hE]; done) | exact hE.symm | (rw [hE]; rfl) | (rw [hE]; exact hl) | (rw [hE]; exact Nat.le_refl _) | (rw [hE]; exact fun _ => rfl) | (rw [hE]; intro q; simp [onOk, fCl, upd, clOf, nth, AV.cells, avI_s, avI_i, ofVal, cellOf]; done) | (rw [hE]; refine .inr (fun i hi => row_c ?_); simp [enC, fCl, hE]; done) | (rw [hE]; refine .inr (fun i hi => row_c ?_); by_cases q : i = c.toNat <;> simp_all [enC, fCl, upd, clOf, nth, AV.cells, avI_s, avI_i, ofVal, cellOf]; done)
            ·
              first | exact fun _ => rfl | (exfalso; omega) | (rw [hE]; done) | exact hE.symm | (rw [hE]; rfl) | (rw [hE]; exact hl) | (rw [hE]; exact Nat.le_refl _) | (rw [hE]; exact fun _ => rfl) | (rw [hE]; intro q; simp [onOk, fCl, upd, clOf, nth, AV.cells, avI_s, avI_i, ofVal, cellOf]; done) | (rw [hE]; refine .inr (fun i hi => row_c ?_); simp [enC, fCl, hE]; done) | (rw [hE]; refine .inr (fun i hi => row_c ?_); by_cases q : i = c.toNat <;> simp_all [enC, fCl, upd, clOf, nth, AV.cells, avI_s, avI_i, ofVal, cellOf]; done)
            ·
              first | (apply Nat.ble_eq_true_of_le; omega) | (simp [Nat.blt_eq]; omega) | (exfalso; omega) | (rw [hE]; done) | exact hE.symm | (rw [hE]; rfl) | (rw [hE]; exact hl) | (rw [hE]; exact Nat.le_refl _) | (rw [hE]; exact fun _ => rfl) | (rw [hE]; intro q; simp [onOk, fCl, upd, clOf, nth, AV.cells, avI_s, avI_i, ofVal, cellOf]; done) | (rw [hE]; refine .inr (fun i hi => row_c ?_); simp [enC, fCl, hE]; done) | (rw [hE]; refine .inr (fun i hi => row_c ?_); by_cases q : i = c.toNat <;> simp_all [enC, fCl, upd, clOf, nth, AV.cells, avI_s, avI_i, ofVal, cellOf]; done)
            ·
              first | (apply Nat.ble_eq_true_of_le; omega) | (simp [Nat.blt_eq]; omega) | (exfalso; omega) | (rw [hE]; done) | exact hE.symm | (rw [hE]; rfl) | (rw [hE]; exact hl) | (rw [hE]; exact Nat.le_refl _) | (rw [hE]; exact fun _ => rfl) | (rw [hE]; intro q; simp [onOk, fCl, upd, clOf, nth, AV.cells, avI_s, avI_i, ofVal, cellOf]; done) | (rw [hE]; refine .inr (fun i hi => row_c ?_); simp [enC, fCl, hE]; done) | (rw [hE]; refine .inr (fun i hi => row_c ?_); by_cases q : i = c.toNat <;> simp_all [enC, fCl, upd, clOf, nth, AV.cells, avI_s, avI_i, ofVal, cellOf]; done)
            ·
              first | (apply Nat.ble_eq_true_of_le; omega) | (simp [Nat.blt_eq]; omega) | (exfalso; omega) | (rw [hE]; done) | exact hE.symm | (rw [hE]; rfl) | (rw [hE]; exact hl) | (rw [hE]; exact Nat.le_refl _) | (rw [hE]; exact fun _ => rfl) | (rw [hE]; intro q; simp [onOk, fCl, upd, clOf, nth, AV.cells, avI_s, avI_i, ofVal, cellOf]; done) | (rw [hE]; refine .inr (fun i hi => row_c ?_); simp [enC, fCl, hE]; done) | (rw [hE]; refine .inr (fun i hi => row_c ?_); by_cases q : i = c.toNat <;> simp_all [enC, fCl, upd, clOf, nth, AV.cells, avI_s, avI_i, ofVal, cellOf]; done)
            ·
              first | (apply Nat.ble_eq_true_of_le; omega) | (simp [Nat.blt_eq]; omega) | (exfalso; omega) | (rw [hE]; done) | exact hE.symm | (rw [hE]; rfl) | (rw [hE]; exact hl) | (rw [hE]; exact Nat.le_refl _) | (rw [hE]; exact fun _ => rfl) | (rw [hE]; intro q; simp [onOk, fCl, upd, clOf, nth, AV.cells, avI_s, avI_i, ofVal, cellOf]; done) | (rw [hE]; refine .inr (fun i hi => row_c ?_); simp [enC, fCl, hE]; done) | (rw [hE]; refine .inr (fun i hi => row_c ?_); by_cases q : i = c.toNat <;> simp_all [enC, fCl, upd, clOf, nth, AV.cells, avI_s, avI_i, ofVal, cellOf]; done)
            ·
              first | (apply Nat.ble_eq_true_of_le; omega) | (simp [Nat.blt_eq]; omega) | (exfalso; omega) | (rw [hE]; done) | exact hE.symm | (rw [hE]; rfl) | (rw [hE]; exact hl) | (rw [hE]; exact Nat.le_refl _) | (rw [hE]; exact fun _ => rfl) | (rw [hE]; intro q; simp [onOk, fCl, upd, clOf, nth, AV.cells, avI_s, avI_i, ofVal, cellOf]; done) | (rw [hE]; refine .inr (fun i hi => row_c ?_); simp [enC, fCl, hE]; done) | (rw [hE]; refine .inr (fun i hi => row_c ?_); by_cases q : i = c.toNat <;> simp_all [enC, fCl, upd, clOf, nth, AV.cells, avI_s, avI_i, ofVal, cellOf]; done)
            ·
              first | (apply Nat.ble_eq_true_of_le; omega) | (simp [Nat.blt_eq]; omega) | (exfalso; omega) | (rw [hE]; done) | exact hE.symm | (rw [hE]; rfl) | (rw [hE]; exact hl) | (rw [hE]; exact Nat.le_refl _) | (rw [hE]; exact fun _ => rfl) | (rw [hE]; intro q; simp [onOk, fCl, upd, clOf, nth, AV.cells, avI_s, avI_i, ofVal, cellOf]; done) | (rw [hE]; refine .inr (fun i hi => row_c ?_); simp [enC, fCl, hE]; done) | (rw [hE]; refine .inr (fun i hi => row_c ?_); by_cases q : i = c.toNat <;> simp_all [enC, fCl, upd, clOf, nth, AV.cells, avI_s, avI_i, ofVal, cellOf]; done)
            ·
              first | (apply Nat.ble_eq_true_of_le; omega) | (simp [Nat.blt_eq]; omega) | (exfalso; omega) | (rw [hE]; done) | exact hE.symm | (rw [hE]; rfl) | (rw [hE]; exact hl) | (rw [hE]; exact Nat.le_refl _) | (rw [hE]; exact fun _ => rfl) | (rw [hE]; intro q; simp [onOk, fCl, upd, clOf, nth, AV.cells, avI_s, avI_i, ofVal, cellOf]; done) | (rw [hE]; refine .inr (fun i hi => row_c ?_); simp [enC, fCl, hE]; done) | (rw [hE]; refine .inr (fun i hi => row_c ?_); by_cases q : i = c.toNat <;> simp_all [enC, fCl, upd, clOf, nth, AV.cells, avI_s, avI_i, ofVal, cellOf]; done)
            ·
              first | (apply Nat.ble_eq_true_of_le; omega) | (simp [Nat.blt_eq]; omega) | (exfalso; omega) | (rw [hE]; done) | exact hE.symm | (rw [hE]; rfl) | (rw [hE]; exact hl) | (rw [hE]; exact Nat.le_refl _) | (rw [hE]; exact fun _ => rfl) | (rw [hE]; intro q; simp [onOk, fCl, upd, clOf, nth, AV.cells, avI_s, avI_i, ofVal, cellOf]; done) | (rw [hE]; refine .inr (fun i hi => row_c ?_); simp [enC, fCl, hE]; done) | (rw [hE]; refine .inr (fun i hi => row_c ?_); by_cases q : i = c.toNat <;> simp_all [enC, fCl, upd, clOf, nth, AV.cells, avI_s, avI_i, ofVal, cellOf]; done)
noncomputable def henSpec : LSpec := fun la lh => match la, lh with
  | [.ptr z1 z2 z3, .sym .i64 c, .sym .i64 s], [(z4, .cells z5 [.ss z6 z7 z8 n none, .map z9, .sym .i64 last]), (z10, .arr z11 z12 false l f), (z13, .map z14 U)] =>
    match Nat.beq z1 1 && (Nat.beq z2 0 && (Nat.beq z3 0 && (Nat.beq z4 1 && (Nat.beq z5 3 && (Nat.beq z6 9 && (Nat.beq z7 2 && (Nat.beq z8 0 && (Nat.beq z9 3 && (Nat.beq z10 2 && (Nat.beq z11 9 && (shBeq z12 cSh && (Nat.beq z13 3 && (Nat.beq z14 76))))))))))))) with
    | true => some (henR c s n l f U last)
    | false => none
  | _, _ => none
theorem henSpec_ok (la : List AV) (lh : List (Nat × AO)) (R : LR) (h : henSpec la lh = some R) : LocOk Try.prog 29 la lh R := by
  unfold henSpec at h
  split at h
  · rename_i z1 z2 z3 c s z4 z5 z6 z7 z8 n z9 last z10 z11 z12 l f z13 z14 U
    split at h
    · rename_i hb
      simp only [Bool.and_eq_true] at hb
      obtain ⟨e1, e2, e3, e4, e5, e6, e7, e8, e9, e10, e11, e12, e13, e14⟩ := hb
      have e1 := Nat.eq_of_beq_eq_true e1; subst e1
      have e2 := Nat.eq_of_beq_eq_true e2; subst e2
      have e3 := Nat.eq_of_beq_eq_true e3; subst e3
      have e4 := Nat.eq_of_beq_eq_true e4; subst e4
      have e5 := Nat.eq_of_beq_eq_true e5; subst e5
      have e6 := Nat.eq_of_beq_eq_true e6; subst e6
      have e7 := Nat.eq_of_beq_eq_true e7; subst e7
      have e8 := Nat.eq_of_beq_eq_true e8; subst e8
      have e9 := Nat.eq_of_beq_eq_true e9; subst e9
      have e10 := Nat.eq_of_beq_eq_true e10; subst e10
      have e11 := Nat.eq_of_beq_eq_true e11; subst e11
      have e12 := shBeq_eq e12; subst e12
      have e13 := Nat.eq_of_beq_eq_true e13; subst e13
      have e14 := Nat.eq_of_beq_eq_true e14; subst e14
      cases h
      exact hen_loc c s n l f U last
    · cases h
  · cases h

theorem rbeg_1 (t o ky va s : Int) (n l : Nat) (g : Nat → Nat → AV) (last : Int) : callB EH2 2000 26 [AV.ptr 1 0 0, AV.sym IntKind.i64 t, AV.sym IntKind.i64 o, AV.sym IntKind.u64 ky, AV.sym IntKind.u64 va, AV.sym IntKind.i64 s] (rbegH t o ky va s n l g last) (rbegR t o ky va s n l g last) [(3, Src.nm 2)] [Hint.b true] =
 some ([-1 = onOk (rbE last (srch (rundP t n l g last) n (fun i => Int.ofNat i) (-1)) t o s) (Int.ofNat n) (-1),
 1 = rbE last (srch (rundP t n l g last) n (fun i => Int.ofNat i) (-1)) t o s,
 (0 : Nat) = 0,
 n = onOk (rbE last (srch (rundP t n l g last) n (fun i => Int.ofNat i) (-1)) t o s) (n + 1) n,
 (none : Option Nat) = none,
 last = onOk (rbE last (srch (rundP t n l g last) n (fun i => Int.ofNat i) (-1)) t o s) s last,
 false = false,
 onOk (rbE last (srch (rundP t n l g last) n (fun i => Int.ofNat i) (-1)) t o s) (n + 1) n ≤ l,
 dF (snocC n (fCl g) (mkCl t o ky va s)) = g ∧ plainSh dSh = true ∨ ∀ (i : Nat), i < onOk (rbE last (srch (rundP t n l g last) n (fun i => Int.ofNat i) (-1)) t o s) (n + 1) n → rowOb dSh 0 (g i) (dF (snocC n (fCl g) (mkCl t o ky va s)) i),
 decide (t < 0) = true]) := by kernel_rfl
theorem rbeg_2 (t o ky va s : Int) (n l : Nat) (g : Nat → Nat → AV) (last : Int) : callB EH2 2000 26 [AV.ptr 1 0 0, AV.sym IntKind.i64 t, AV.sym IntKind.i64 o, AV.sym IntKind.u64 ky, AV.sym IntKind.u64 va, AV.sym IntKind.i64 s] (rbegH t o ky va s n l g last) (rbegR t o ky va s n l g last) [(3, Src.nm 2)] [Hint.b false, Hint.b true] =
 some ([-1 = onOk (rbE last (srch (rundP t n l g last) n (fun i => Int.ofNat i) (-1)) t o s) (Int.ofNat n) (-1),
 1 = rbE last (srch (rundP t n l g last) n (fun i => Int.ofNat i) (-1)) t o s,
 (0 : Nat) = 0,
 n = onOk (rbE last (srch (rundP t n l g last) n (fun i => Int.ofNat i) (-1)) t o s) (n + 1) n,
 (none : Option Nat) = none,
 last = onOk (rbE last (srch (rundP t n l g last) n (fun i => Int.ofNat i) (-1)) t o s) s last,
 false = false,
 onOk (rbE last (srch (rundP t n l g last) n (fun i => Int.ofNat i) (-1)) t o s) (n + 1) n ≤ l,
 dF (snocC n (fCl g) (mkCl t o ky va s)) = g ∧ plainSh dSh = true ∨ ∀ (i : Nat), i < onOk (rbE last (srch (rundP t n l g last) n (fun i => Int.ofNat i) (-1)) t o s) (n + 1) n → rowOb dSh 0 (g i) (dF (snocC n (fCl g) (mkCl t o ky va s)) i),
 decide (t > 15) = true,
 decide (t < 0) = false]) := by kernel_rfl
theorem rbeg_3 (t o ky va s : Int) (n l : Nat) (g : Nat → Nat → AV) (last : Int) : callB EH2 2000 26 [AV.ptr 1 0 0, AV.sym IntKind.i64 t, AV.sym IntKind.i64 o, AV.sym IntKind.u64 ky, AV.sym IntKind.u64 va, AV.sym IntKind.i64 s] (rbegH t o ky va s n l g last) (rbegR t o ky va s n l g last) [(3, Src.nm 2)] [Hint.b false, Hint.b false, Hint.b true] =
 some ([-1 = onOk (rbE last (srch (rundP t n l g last) n (fun i => Int.ofNat i) (-1)) t o s) (Int.ofNat n) (-1),
 1 = rbE last (srch (rundP t n l g last) n (fun i => Int.ofNat i) (-1)) t o s,
 (0 : Nat) = 0,
 n = onOk (rbE last (srch (rundP t n l g last) n (fun i => Int.ofNat i) (-1)) t o s) (n + 1) n,
 (none : Option Nat) = none,
 last = onOk (rbE last (srch (rundP t n l g last) n (fun i => Int.ofNat i) (-1)) t o s) s last,
 false = false,
 onOk (rbE last (srch (rundP t n l g last) n (fun i => Int.ofNat i) (-1)) t o s) (n + 1) n ≤ l,
 dF (snocC n (fCl g) (mkCl t o ky va s)) = g ∧ plainSh dSh = true ∨ ∀ (i : Nat), i < onOk (rbE last (srch (rundP t n l g last) n (fun i => Int.ofNat i) (-1)) t o s) (n + 1) n → rowOb dSh 0 (g i) (dF (snocC n (fCl g) (mkCl t o ky va s)) i),
 decide (o > 7) = true,
 decide (t > 15) = false,
 decide (t < 0) = false]) := by kernel_rfl
theorem rbeg_4 (t o ky va s : Int) (n l : Nat) (g : Nat → Nat → AV) (last : Int) : callB EH2 2000 26 [AV.ptr 1 0 0, AV.sym IntKind.i64 t, AV.sym IntKind.i64 o, AV.sym IntKind.u64 ky, AV.sym IntKind.u64 va, AV.sym IntKind.i64 s] (rbegH t o ky va s n l g last) (rbegR t o ky va s n l g last) [(3, Src.nm 2)] [Hint.b false, Hint.b false, Hint.b false, Hint.b true] =
 some ([-1 = onOk (rbE last (srch (rundP t n l g last) n (fun i => Int.ofNat i) (-1)) t o s) (Int.ofNat n) (-1),
 1 = rbE last (srch (rundP t n l g last) n (fun i => Int.ofNat i) (-1)) t o s,
 (0 : Nat) = 0,
 n = onOk (rbE last (srch (rundP t n l g last) n (fun i => Int.ofNat i) (-1)) t o s) (n + 1) n,
 (none : Option Nat) = none,
 last = onOk (rbE last (srch (rundP t n l g last) n (fun i => Int.ofNat i) (-1)) t o s) s last,
 false = false,
 onOk (rbE last (srch (rundP t n l g last) n (fun i => Int.ofNat i) (-1)) t o s) (n + 1) n ≤ l,
 dF (snocC n (fCl g) (mkCl t o ky va s)) = g ∧ plainSh dSh = true ∨ ∀ (i : Nat), i < onOk (rbE last (srch (rundP t n l g last) n (fun i => Int.ofNat i) (-1)) t o s) (n + 1) n → rowOb dSh 0 (g i) (dF (snocC n (fCl g) (mkCl t o ky va s)) i),
 decide (s < last) = true,
 decide (o > 7) = false,
 decide (t > 15) = false,
 decide (t < 0) = false]) := by kernel_rfl
theorem rbeg_5 (t o ky va s : Int) (n l : Nat) (g : Nat → Nat → AV) (last : Int) : callB EH2 2000 26 [AV.ptr 1 0 0, AV.sym IntKind.i64 t, AV.sym IntKind.i64 o, AV.sym IntKind.u64 ky, AV.sym IntKind.u64 va, AV.sym IntKind.i64 s] (rbegH t o ky va s n l g last) (rbegR t o ky va s n l g last) [(3, Src.nm 2)] [Hint.b false, Hint.b false, Hint.b false, Hint.b false, Hint.b true] =
 some ([-1 = onOk (rbE last (srch (rundP t n l g last) n (fun i => Int.ofNat i) (-1)) t o s) (Int.ofNat n) (-1),
 7 = rbE last (srch (rundP t n l g last) n (fun i => Int.ofNat i) (-1)) t o s,
 (0 : Nat) = 0,
 n = onOk (rbE last (srch (rundP t n l g last) n (fun i => Int.ofNat i) (-1)) t o s) (n + 1) n,
 (none : Option Nat) = none,
 last = onOk (rbE last (srch (rundP t n l g last) n (fun i => Int.ofNat i) (-1)) t o s) s last,
 false = false,
 onOk (rbE last (srch (rundP t n l g last) n (fun i => Int.ofNat i) (-1)) t o s) (n + 1) n ≤ l,
 dF (snocC n (fCl g) (mkCl t o ky va s)) = g ∧ plainSh dSh = true ∨ ∀ (i : Nat), i < onOk (rbE last (srch (rundP t n l g last) n (fun i => Int.ofNat i) (-1)) t o s) (n + 1) n → rowOb dSh 0 (g i) (dF (snocC n (fCl g) (mkCl t o ky va s)) i),
 decide (srch (rundP t n l g last) n (fun i => Int.ofNat i) (-1) ≥ 0) = true,
 n ≤ l,
 n ≤ 1000000,
 decide (s < last) = false,
 decide (o > 7) = false,
 decide (t > 15) = false,
 decide (t < 0) = false]) := by kernel_rfl
theorem rbeg_6 (t o ky va s : Int) (n l : Nat) (g : Nat → Nat → AV) (last : Int) : callB EH2 2000 26 [AV.ptr 1 0 0, AV.sym IntKind.i64 t, AV.sym IntKind.i64 o, AV.sym IntKind.u64 ky, AV.sym IntKind.u64 va, AV.sym IntKind.i64 s] (rbegH t o ky va s n l g last) (rbegR t o ky va s n l g last) [(3, Src.nm 4)] [Hint.b false, Hint.b false, Hint.b false, Hint.b false, Hint.b false] =
 some ([IntKind.i64.wrap (Int.ofNat (n + 1) - 1) = onOk (rbE last (srch (rundP t n l g last) n (fun i => Int.ofNat i) (-1)) t o s) (Int.ofNat n) (-1),
 0 = rbE last (srch (rundP t n l g last) n (fun i => Int.ofNat i) (-1)) t o s,
 (0 : Nat) = 0,
 n + 1 = onOk (rbE last (srch (rundP t n l g last) n (fun i => Int.ofNat i) (-1)) t o s) (n + 1) n,
 (none : Option Nat) = none,
 s = onOk (rbE last (srch (rundP t n l g last) n (fun i => Int.ofNat i) (-1)) t o s) s last,
 false = false,
 onOk (rbE last (srch (rundP t n l g last) n (fun i => Int.ofNat i) (-1)) t o s) (n + 1) n ≤ n + 1,
 (dF (snocC n (fCl g) (mkCl t o ky va s)) = fun i j => if i < n then g (0 + i) j else rowsOf 9 [AV.sym IntKind.i64 t, AV.sym IntKind.i64 o, AV.sym IntKind.u64 ky, AV.sym IntKind.u64 va, ofVal (Value.int IntKind.i64 0), ofVal (Value.int IntKind.u64 0), AV.sym IntKind.i64 s, ofVal (Value.int IntKind.i64 (-1)), ofVal (Value.int IntKind.i64 (-1))] (i - n) j) ∧ plainSh dSh = true ∨ ∀ (i : Nat), i < onOk (rbE last (srch (rundP t n l g last) n (fun i => Int.ofNat i) (-1)) t o s) (n + 1) n → rowOb dSh 0 (fun j => if i < n then g (0 + i) j else rowsOf 9 [AV.sym IntKind.i64 t, AV.sym IntKind.i64 o, AV.sym IntKind.u64 ky, AV.sym IntKind.u64 va, ofVal (Value.int IntKind.i64 0), ofVal (Value.int IntKind.u64 0), AV.sym IntKind.i64 s, ofVal (Value.int IntKind.i64 (-1)), ofVal (Value.int IntKind.i64 (-1))] (i - n) j) (dF (snocC n (fCl g) (mkCl t o ky va s)) i),
 ((n + 1) * 72).ble 70368744177664 = true,
 (0 + n).ble l = true,
 decide (srch (rundP t n l g last) n (fun i => Int.ofNat i) (-1) ≥ 0) = false,
 n ≤ l,
 n ≤ 1000000,
 decide (s < last) = false,
 decide (o > 7) = false,
 decide (t > 15) = false,
 decide (t < 0) = false]) := by kernel_rfl
theorem rbeg_loc (t o ky va s : Int) (n l : Nat) (g : Nat → Nat → AV) (last : Int) : LocOk Try.prog 26 [.ptr 1 0 0, .sym .i64 t, .sym .i64 o, .sym .u64 ky, .sym .u64 va, .sym .i64 s] (rbegH t o ky va s n l g last) (rbegR t o ky va s n l g last) := by
  refine loc_of_call EH2_ok (fun hp => ?_)
  have hl : n ≤ l := hp _ (List.mem_cons_self ..)
  have hm : n ≤ 100000 := hp _ (List.mem_cons_of_mem _ (List.mem_cons_self ..))
  clear hp
  cases h1 : (decide (t < 0)) with
  | true =>
    have g1 := of_decide_eq_true h1
    try simp only [Int.ofNat_eq_natCast, ge_iff_le, gt_iff_lt, Int.not_lt, Int.not_le] at g1
    first | (have hE : (rbE last (srch (rundP t n l g last) n (fun i => Int.ofNat i) (-1)) t o s) = 0 := by (simp_all [rbE]; done)) | (have hE : (rbE last (srch (rundP t n l g last) n (fun i => Int.ofNat i) (-1)) t o s) = 0 := by (simp_all [rbE]; omega)) | (have hE : (rbE last (srch (rundP t n l g last) n (fun i => Int.ofNat i) (-1)) t o s) = 1 := by (simp_all [rbE]; done)) | (have hE : (rbE last (srch (rundP t n l g last) n (fun i => Int.ofNat i) (-1)) t o s) = 1 := by (simp_all [rbE]; omega)) | (have hE : (rbE last (srch (rundP t n l g last) n (fun i => Int.ofNat i) (-1)) t o s) = 7 := by (simp_all [rbE]; done)) | (have hE : (rbE last (srch (rundP t n l g last) n (fun i => Int.ofNat i) (-1)) t o s) = 7 := by (simp_all [rbE]; omega))
    refine ⟨2000, _, _, _, rbeg_1 .., (ob_cons ?_ (ob_cons ?_ (ob_cons rfl (ob_cons ?_ (ob_cons rfl (ob_cons ?_ (ob_cons rfl (ob_cons ?_ (ob_cons ?_ (ob_cons h1 ob_nil))))))))))⟩
    ·
      first | rfl | (exfalso; omega) | (rw [hE]; done) | exact hE.symm | (rw [hE]; rfl) | (rw [hE]; exact hl) | (rw [hE]; exact Nat.le_refl _) | (rw [hE]; exact fun _ => rfl) | (rw [hE]; exact .inr (snocd_rows (Nat.le_refl _))) | (rw [hE]; exact .inr (snocd_rows' rfl)) | (rw [hE]; show IntKind.i64.wrap _ = Int.ofNat n; rw [i64w] <;> simp <;> omega) | omega
    ·
      first | rfl | (exfalso; omega) | (rw [hE]; done) | exact hE.symm | (rw [hE]; rfl) | (rw [hE]; exact hl) | (rw [hE]; exact Nat.le_refl _) | (rw [hE]; exact fun _ => rfl) | (rw [hE]; exact .inr (snocd_rows (Nat.le_refl _))) | (rw [hE]; exact .inr (snocd_rows' rfl)) | (rw [hE]; show IntKind.i64.wrap _ = Int.ofNat n; rw [i64w] <;> simp <;> omega) | omega
    ·
      first | rfl | (exfalso; omega) | (rw [hE]; done) | exact hE.symm | (rw [hE]; rfl) | (rw [hE]; exact hl) | (rw [hE]; exact Nat.le_refl _) | (rw [hE]; exact fun _ => rfl) | (rw [hE]; exact .inr (snocd_rows (Nat.le_refl _))) | (rw [hE]; exact .inr (snocd_rows' rfl)) | (rw [hE]; show IntKind.i64.wrap _ = Int.ofNat n; rw [i64w] <;> simp <;> omega) | omega
    ·
      first | rfl | (exfalso; omega) | (rw [hE]; done) | exact hE.symm | (rw [hE]; rfl) | (rw [hE]; exact hl) | (rw [hE]; exact Nat.le_refl _) | (rw [hE]; exact fun _ => rfl) | (rw [hE]; exact .inr (snocd_rows (Nat.le_refl _))) | (rw [hE]; exact .inr (snocd_rows' rfl)) | (rw [hE]; show IntKind.i64.wrap _ = Int.ofNat n; rw [i64w] <;> simp <;> omega) | omega
    ·
      first | exact Nat.le_refl _ | omega | (exfalso; omega) | (rw [hE]; done) | exact hE.symm | (rw [hE]; rfl) | (rw [hE]; exact hl) | (rw [hE]; exact Nat.le_refl _) | (rw [hE]; exact fun _ => rfl) | (rw [hE]; exact .inr (snocd_rows (Nat.le_refl _))) | (rw [hE]; exact .inr (snocd_rows' rfl)) | (rw [hE]; show IntKind.i64.wrap _ = Int.ofNat n; rw [i64w] <;> simp <;> omega) | omega
    ·
      first | exact .inl ⟨rfl, rfl⟩ | (exfalso; omega) | (rw [hE]; done) | exact hE.symm | (rw [hE]; rfl) | (rw [hE]; exact hl) | (rw [hE]; exact Nat.le_refl _) | (rw [hE]; exact fun _ => rfl) | (rw [hE]; exact .inr (snocd_rows (Nat.le_refl _))) | (rw [hE]; exact .inr (snocd_rows' rfl)) | (rw [hE]; show IntKind.i64.wrap _ = Int.ofNat n; rw [i64w] <;> simp <;> omega) | omega
  | false =>
    have g1 := of_decide_eq_false h1
    try simp only [Int.ofNat_eq_natCast, ge_iff_le, gt_iff_lt, Int.not_lt, Int.not_le] at g1
    cases h2 : (decide (t > 15)) with
    | true =>
      have g2 := of_decide_eq_true h2
      try simp only [Int.ofNat_eq_natCast, ge_iff_le, gt_iff_lt, Int.not_lt, Int.not_le] at g2
      first | (have hE : (rbE last (srch (rundP t n l g last) n (fun i => Int.ofNat i) (-1)) t o s) = 0 := by (simp_all [rbE]; done)) | (have hE : (rbE last (srch (rundP t n l g last) n (fun i => Int.ofNat i) (-1)) t o s) = 0 := by (simp_all [rbE]; omega)) | (have hE : (rbE last (srch (rundP t n l g last) n (fun i => Int.ofNat i) (-1)) t o s) = 1 := by (simp_all [rbE]; done)) | (have hE : (rbE last (srch (rundP t n l g last) n (fun i => Int.ofNat i) (-1)) t o s) = 1 := by (simp_all [rbE]; omega)) | (have hE : (rbE last (srch (rundP t n l g last) n (fun i => Int.ofNat i) (-1)) t o s) = 7 := by (simp_all [rbE]; done)) | (have hE : (rbE last (srch (rundP t n l g last) n (fun i => Int.ofNat i) (-1)) t o s) = 7 := by (simp_all [rbE]; omega))
      refine ⟨2000, _, _, _, rbeg_2 .., (ob_cons ?_ (ob_cons ?_ (ob_cons rfl (ob_cons ?_ (ob_cons rfl (ob_cons ?_ (ob_cons rfl (ob_cons ?_ (ob_cons ?_ (ob_cons h2 (ob_cons h1 ob_nil)))))))))))⟩
      ·
        first | rfl | (exfalso; omega) | (rw [hE]; done) | exact hE.symm | (rw [hE]; rfl) | (rw [hE]; exact hl) | (rw [hE]; exact Nat.le_refl _) | (rw [hE]; exact fun _ => rfl) | (rw [hE]; exact .inr (snocd_rows (Nat.le_refl _))) | (rw [hE]; exact .inr (snocd_rows' rfl)) | (rw [hE]; show IntKind.i64.wrap _ = Int.ofNat n; rw [i64w] <;> simp <;> omega) | omega
      ·
        first | rfl | (exfalso; omega) | (rw [hE]; done) | exact hE.symm | (rw [hE]; rfl) | (rw [hE]; exact hl) | (rw [hE]; exact Nat.le_refl _) | (rw [hE]; exact fun _ => rfl) | (rw [hE]; exact .inr (snocd_rows (Nat.le_refl _))) | (rw [hE]; exact .inr (snocd_rows' rfl)) | (rw [hE]; show IntKind.i64.wrap _ = Int.ofNat n; rw [i64w] <;> simp <;> omega) | omega
      ·
        first | rfl | (exfalso; omega) | (rw [hE]; done) | exact hE.symm | (rw [hE]; rfl) | (rw [hE]; exact hl) | (rw [hE]; exact Nat.le_refl _) | (rw [hE]; exact fun _ => rfl) | (rw [hE]; exact .inr (snocd_rows (Nat.le_refl _))) | (rw [hE]; exact .inr (snocd_rows' rfl)) | (rw [hE]; show IntKind.i64.wrap _ = Int.ofNat n; rw [i64w] <;> simp <;> omega) | omega
      ·
        first | rfl | (exfalso; omega) | (rw [hE]; done) | exact hE.symm | (rw [hE]; rfl) | (rw [hE]; exact hl) | (rw [hE]; exact Nat.le_refl _) | (rw [hE]; exact fun _ => rfl) | (rw [hE]; exact .inr (snocd_rows (Nat.le_refl _))) | (rw [hE]; exact .inr (snocd_rows' rfl)) | (rw [hE]; show IntKind.i64.wrap _ = Int.ofNat n; rw [i64w] <;> simp <;> omega) | omega
      ·
        first | exact Nat.le_refl _ | omega | (exfalso; omega) | (rw [hE]; done) | exact hE.symm | (rw [hE]; rfl) | (rw [hE]; exact hl) | (rw [hE]; exact Nat.le_refl _) | (rw [hE]; exact fun _ => rfl) | (rw [hE]; exact .inr (snocd_rows (Nat.le_refl _))) | (rw [hE]; exact .inr (snocd_rows' rfl)) | (rw [hE]; show IntKind.i64.wrap _ = Int.ofNat n; rw [i64w] <;> simp <;> omega) | omega
      ·
        first | exact .inl ⟨rfl, rfl⟩ | (exfalso; omega) | (rw [hE]; done) | exact hE.symm | (rw [hE]; rfl) | (rw [hE]; exact hl) | (rw [hE]; exact Nat.le_refl _) | (rw [hE]; exact fun _ => rfl) | (rw [hE]; exact .inr (snocd_rows (Nat.le_refl _))) | (rw [hE]; exact .inr (snocd_rows' rfl)) | (rw [hE]; show IntKind.i64.wrap _ = Int.ofNat n; rw [i64w] <;> simp <;> omega) | omega
    | false =>
      have g2 := of_decide_eq_false h2
      try simp only [Int.ofNat_eq_natCast, ge_iff_le, gt_iff_lt, Int.not_lt, Int.not_le] at g2
      cases h3 : (decide (o > 7)) with
      | true =>
        have g3 := of_decide_eq_true h3
        try simp only [Int.ofNat_eq_natCast, ge_iff_le, gt_iff_lt, Int.not_lt, Int.not_le] at g3
        first | (have hE : (rbE last (srch (rundP t n l g last) n (fun i => Int.ofNat i) (-1)) t o s) = 0 := by (simp_all [rbE]; done)) | (have hE : (rbE last (srch (rundP t n l g last) n (fun i => Int.ofNat i) (-1)) t o s) = 0 := by (simp_all [rbE]; omega)) | (have hE : (rbE last (srch (rundP t n l g last) n (fun i => Int.ofNat i) (-1)) t o s) = 1 := by (simp_all [rbE]; done)) | (have hE : (rbE last (srch (rundP t n l g last) n (fun i => Int.ofNat i) (-1)) t o s) = 1 := by (simp_all [rbE]; omega)) | (have hE : (rbE last (srch (rundP t n l g last) n (fun i => Int.ofNat i) (-1)) t o s) = 7 := by (simp_all [rbE]; done)) | (have hE : (rbE last (srch (rundP t n l g last) n (fun i => Int.ofNat i) (-1)) t o s) = 7 := by (simp_all [rbE]; omega))
        refine ⟨2000, _, _, _, rbeg_3 .., (ob_cons ?_ (ob_cons ?_ (ob_cons rfl (ob_cons ?_ (ob_cons rfl (ob_cons ?_ (ob_cons rfl (ob_cons ?_ (ob_cons ?_ (ob_cons h3 (ob_cons h2 (ob_cons h1 ob_nil))))))))))))⟩
        ·
          first | rfl | (exfalso; omega) | (rw [hE]; done) | exact hE.symm | (rw [hE]; rfl) | (rw [hE]; exact hl) | (rw [hE]; exact Nat.le_refl _) | (rw [hE]; exact fun _ => rfl) | (rw [hE]; exact .inr (snocd_rows (Nat.le_refl _))) | (rw [hE]; exact .inr (snocd_rows' rfl)) | (rw [hE]; show IntKind.i64.wrap _ = Int.ofNat n; rw [i64w] <;> simp <;> omega) | omega
        ·
          first | rfl | (exfalso; omega) | (rw [hE]; done) | exact hE.symm | (rw [hE]; rfl) | (rw [hE]; exact hl) | (rw [hE]; exact Nat.le_refl _) | (rw [hE]; exact fun _ => rfl) | (rw [hE]; exact .inr (snocd_rows (Nat.le_refl _))) | (rw [hE]; exact .inr (snocd_rows' rfl)) | (rw [hE]; show IntKind.i64.wrap _ = Int.ofNat n; rw [i64w] <;> simp <;> omega) | omega
        ·
          first | rfl | (exfalso; omega) | (rw [hE]; done) | exact hE.symm | (rw [hE]; rfl) | (rw [hE]; exact hl) | (rw [hE]; exact Nat.le_refl _) | (rw [hE]; exact fun _ => rfl) | (rw [hE]; exact .inr (snocd_rows (Nat.le_refl _))) | (rw [hE]; exact .inr (snocd_rows' rfl)) | (rw [hE]; show IntKind.i64.wrap _ = Int.ofNat n; rw [i64w] <;> simp <;> omega) | omega
        ·
          first | rfl | (exfalso; omega) | (rw [hE]; done) | exact hE.symm | (rw [hE]; rfl) | (rw [hE]; exact hl) | (rw [hE]; exact Nat.le_refl _) | (rw [hE]; exact fun _ => rfl) | (rw [hE]; exact .inr (snocd_rows (Nat.le_refl _))) | (rw [hE]; exact .inr (snocd_rows' rfl)) | (rw [hE]; show IntKind.i64.wrap _ = Int.ofNat n; rw [i64w] <;> simp <;> omega) | omega
        ·
          first | exact Nat.le_refl _ | omega | (exfalso; omega) | (rw [hE]; done) | exact hE.symm | (rw [hE]; rfl) | (rw [hE]; exact hl) | (rw [hE]; exact Nat.le_refl _) | (rw [hE]; exact fun _ => rfl) | (rw [hE]; exact .inr (snocd_rows (Nat.le_refl _))) | (rw [hE]; exact .inr (snocd_rows' rfl)) | (rw [hE]; show IntKind.i64.wrap _ = Int.ofNat n; rw [i64w] <;> simp <;> omega) | omega
        ·
          first | exact .inl ⟨rfl, rfl⟩ | (exfalso; omega) | (rw [hE]; done) | exact hE.symm | (rw [hE]; rfl) | (rw [hE]; exact hl) | (rw [hE]; exact Nat.le_refl _) | (rw [hE]; exact fun _ => rfl) | (rw [hE]; exact .inr (snocd_rows (Nat.le_refl _))) | (rw [hE]; exact .inr (snocd_rows' rfl)) | (rw [hE]; show IntKind.i64.wrap _ = Int.ofNat n; rw [i64w] <;> simp <;> omega) | omega
      | false =>
        have g3 := of_decide_eq_false h3
        try simp only [Int.ofNat_eq_natCast, ge_iff_le, gt_iff_lt, Int.not_lt, Int.not_le] at g3
        cases h4 : (decide (s < last)) with
        | true =>
          have g4 := of_decide_eq_true h4
          try simp only [Int.ofNat_eq_natCast, ge_iff_le, gt_iff_lt, Int.not_lt, Int.not_le] at g4
          first | (have hE : (rbE last (srch (rundP t n l g last) n (fun i => Int.ofNat i) (-1)) t o s) = 0 := by (simp_all [rbE]; done)) | (have hE : (rbE last (srch (rundP t n l g last) n (fun i => Int.ofNat i) (-1)) t o s) = 0 := by (simp_all [rbE]; omega)) | (have hE : (rbE last (srch (rundP t n l g last) n (fun i => Int.ofNat i) (-1)) t o s) = 1 := by (simp_all [rbE]; done)) | (have hE : (rbE last (srch (rundP t n l g last) n (fun i => Int.ofNat i) (-1)) t o s) = 1 := by (simp_all [rbE]; omega)) | (have hE : (rbE last (srch (rundP t n l g last) n (fun i => Int.ofNat i) (-1)) t o s) = 7 := by (simp_all [rbE]; done)) | (have hE : (rbE last (srch (rundP t n l g last) n (fun i => Int.ofNat i) (-1)) t o s) = 7 := by (simp_all [rbE]; omega))
          refine ⟨2000, _, _, _, rbeg_4 .., (ob_cons ?_ (ob_cons ?_ (ob_cons rfl (ob_cons ?_ (ob_cons rfl (ob_cons ?_ (ob_cons rfl (ob_cons ?_ (ob_cons ?_ (ob_cons h4 (ob_cons h3 (ob_cons h2 (ob_cons h1 ob_nil)))))))))))))⟩
          ·
            first | rfl | (exfalso; omega) | (rw [hE]; done) | exact hE.symm | (rw [hE]; rfl) | (rw [hE]; exact hl) | (rw [hE]; exact Nat.le_refl _) | (rw [hE]; exact fun _ => rfl) | (rw [hE]; exact .inr (snocd_rows (Nat.le_refl _))) | (rw [hE]; exact .inr (snocd_rows' rfl)) | (rw [hE]; show IntKind.i64.wrap _ = Int.ofNat n; rw [i64w] <;> simp <;> omega) | omega
          ·
            first | rfl | (exfalso; omega) | (rw [hE]; done) | exact hE.symm | (rw [hE]; rfl) | (rw [hE]; exact hl) | (rw [hE]; exact Nat.le_refl _) | (rw [hE]; exact fun _ => rfl) | (rw [hE]; exact .inr (snocd_rows (Nat.le_refl _))) | (rw [hE]; exact .inr (snocd_rows' rfl)) | (rw [hE]; show IntKind.i64.wrap _ = Int.ofNat n; rw [i64w] <;> simp <;> omega) | omega
          ·
            first | rfl | (exfalso; omega) | (rw [hE]; done) | exact hE.symm | (rw [hE]; rfl) | (rw [hE]; exact hl) | (rw [hE]; exact Nat.le_refl _) | (rw [hE]; exact fun _ => rfl) | (rw [hE]; exact .inr (snocd_rows (Nat.le_refl _))) | (rw [hE]; exact .inr (snocd_rows' rfl)) | (rw [hE]; show IntKind.i64.wrap _ = Int.ofNat n; rw [i64w] <;> simp <;> omega) | omega
          ·
            first | rfl | (exfalso; omega) | (rw [hE]; done) | exact hE.symm | (rw [hE]; rfl) | (rw [hE]; exact hl) | (rw [hE]; exact Nat.le_refl _) | (rw [hE]; exact fun _ => rfl) | (rw [hE]; exact .inr (snocd_rows (Nat.le_refl _))) | (rw [hE]; exact .inr (snocd_rows' rfl)) | (rw [hE]; show IntKind.i64.wrap _ = Int.ofNat n; rw [i64w] <;> simp <;> omega) | omega
          ·
            first | exact Nat.le_refl _ | omega | (exfalso; omega) | (rw [hE]; done) | exact hE.symm | (rw [hE]; rfl) | (rw [hE]; exact hl) | (rw [hE]; exact Nat.le_refl _) | (rw [hE]; exact fun _ => rfl) | (rw [hE]; exact .inr (snocd_rows (Nat.le_refl _))) | (rw [hE]; exact .inr (snocd_rows' rfl)) | (rw [hE]; show IntKind.i64.wrap _ = Int.ofNat n; rw [i64w] <;> simp <;> omega) | omega
          ·
            first | exact .inl ⟨rfl, rfl⟩ | (exfalso; omega) | (rw [hE]; done) | exact hE.symm | (rw [hE]; rfl) | (rw [hE]; exact hl) | (rw [hE]; exact Nat.le_refl _) | (rw [hE]; exact fun _ => rfl) | (rw [hE]; exact .inr (snocd_rows (Nat.le_refl _))) | (rw [hE]; exact .inr (snocd_rows' rfl)) | (rw [hE]; show IntKind.i64.wrap _ = Int.ofNat n; rw [i64w] <;> simp <;> omega) | omega
        | false =>
          have g4 := of_decide_eq_false h4
          try simp only [Int.ofNat_eq_natCast, ge_iff_le, gt_iff_lt, Int.not_lt, Int.not_le] at g4
          cases h5 : (decide (srch (rundP t n l g last) n (fun i => Int.ofNat i) (-1) ≥ 0)) with
          | true =>
            have g5 := of_decide_eq_true h5
            try simp only [Int.ofNat_eq_natCast, ge_iff_le, gt_iff_lt, Int.not_lt, Int.not_le] at g5
            first | (have hE : (rbE last (srch (rundP t n l g last) n (fun i => Int.ofNat i) (-1)) t o s) = 0 := by (simp_all [rbE]; done)) | (have hE : (rbE last (srch (rundP t n l g last) n (fun i => Int.ofNat i) (-1)) t o s) = 0 := by (simp_all [rbE]; omega)) | (have hE : (rbE last (srch (rundP t n l g last) n (fun i => Int.ofNat i) (-1)) t o s) = 1 := by (simp_all [rbE]; done)) | (have hE : (rbE last (srch (rundP t n l g last) n (fun i => Int.ofNat i) (-1)) t o s) = 1 := by (simp_all [rbE]; omega)) | (have hE : (rbE last (srch (rundP t n l g last) n (fun i => Int.ofNat i) (-1)) t o s) = 7 := by (simp_all [rbE]; done)) | (have hE : (rbE last (srch (rundP t n l g last) n (fun i => Int.ofNat i) (-1)) t o s) = 7 := by (simp_all [rbE]; omega))
            refine ⟨2000, _, _, _, rbeg_5 .., (ob_cons ?_ (ob_cons ?_ (ob_cons rfl (ob_cons ?_ (ob_cons rfl (ob_cons ?_ (ob_cons rfl (ob_cons ?_ (ob_cons ?_ (ob_cons h5 (ob_cons ?_ (ob_cons ?_ (ob_cons h4 (ob_cons h3 (ob_cons h2 (ob_cons h1 ob_nil))))))))))))))))⟩
            ·
              first | rfl | (exfalso; omega) | (rw [hE]; done) | exact hE.symm | (rw [hE]; rfl) | (rw [hE]; exact hl) | (rw [hE]; exact Nat.le_refl _) | (rw [hE]; exact fun _ => rfl) | (rw [hE]; exact .inr (snocd_rows (Nat.le_refl _))) | (rw [hE]; exact .inr (snocd_rows' rfl)) | (rw [hE]; show IntKind.i64.wrap _ = Int.ofNat n; rw [i64w] <;> simp <;> omega) | omega
            ·
              first | rfl | (exfalso; omega) | (rw [hE]; done) | exact hE.symm | (rw [hE]; rfl) | (rw [hE]; exact hl) | (rw [hE]; exact Nat.le_refl _) | (rw [hE]; exact fun _ => rfl) | (rw [hE]; exact .inr (snocd_rows (Nat.le_refl _))) | (rw [hE]; exact .inr (snocd_rows' rfl)) | (rw [hE]; show IntKind.i64.wrap _ = Int.ofNat n; rw [i64w] <;> simp <;> omega) | omega
            ·
              first | rfl | (exfalso; omega) | (rw [hE]; done) | exact hE.symm | (rw [hE]; rfl) | (rw [hE]; exact hl) | (rw [hE]; exact Nat.le_refl _) | (rw [hE]; exact fun _ => rfl) | (rw [hE]; exact .inr (snocd_rows (Nat.le_refl _))) | (rw [hE]; exact .inr (snocd_rows' rfl)) | (rw [hE]; show IntKind.i64.wrap _ = Int.ofNat n; rw [i64w] <;> simp <;> omega) | omega
            ·
              first | rfl | (exfalso; omega) | (rw [hE]; done) | exact hE.symm | (rw [hE]; rfl) | (rw [hE]; exact hl) | (rw [hE]; exact Nat.le_refl _) | (rw [hE]; exact fun _ => rfl) | (rw [hE]; exact .inr (snocd_rows (Nat.le_refl _))) | (rw [hE]; exact .inr (snocd_rows' rfl)) | (rw [hE]; show IntKind.i64.wrap _ = Int.ofNat n; rw [i64w] <;> simp <;> omega) | omega
            ·
              first | exact Nat.le_refl _ | omega | (exfalso; omega) | (rw [hE]; done) | exact hE.symm | (rw [hE]; rfl) | (rw [hE]; exact hl) | (rw [hE]; exact Nat.le_refl _) | (rw [hE]; exact fun _ => rfl) | (rw [hE]; exact .inr (snocd_rows (Nat.le_refl _))) | (rw [hE]; exact .inr (snocd_rows' rfl)) | (rw [hE]; show IntKind.i64.wrap _ = Int.ofNat n; rw [i64w] <;> simp <;> omega) | omega
            ·
              first | exact .inl ⟨rfl, rfl⟩ | (exfalso; omega) | (rw [hE]; done) | exact hE.symm | (rw [hE]; rfl) | (rw [hE]; exact hl) | (rw [hE]; exact Nat.le_refl _) | (rw [hE]; exact fun _ => rfl) | (rw [hE]; exact .inr (snocd_rows (Nat.le_refl _))) | (rw [hE]; exact .inr (snocd_rows' rfl)) | (rw [hE]; show IntKind.i64.wrap _ = Int.ofNat n; rw [i64w] <;> simp <;> omega) | omega
            ·
              first | exact Nat.le_refl _ | omega | (exfalso; omega) | (rw [hE]; done) | exact hE.symm | (rw [hE]; rfl) | (rw [hE]; exact hl) | (rw [hE]; exact Nat.le_refl _) | (rw [hE]; exact fun _ => rfl) | (rw [hE]; exact .inr (snocd_rows (Nat.le_refl _))) | (rw [hE]; exact .inr (snocd_rows' rfl)) | (rw [hE]; show IntKind.i64.wrap _ = Int.ofNat n; rw [i64w] <;> simp <;> omega) | omega
            ·
              first | exact Nat.le_refl _ | omega | (exfalso; omega) | (rw [hE]; done) | exact hE.symm | (rw [hE]; rfl) | (rw [hE]; exact hl) | (rw [hE]; exact Nat.le_refl _) | (rw [hE]; exact fun _ => rfl) | (rw [hE]; exact .inr (snocd_rows (Nat.le_refl _))) | (rw [hE]; exact .inr (snocd_rows' rfl)) | (rw [hE]; show IntKind.i64.wrap _ = Int.ofNat n; rw [i64w] <;> simp <;> omega) | omega
          | false =>
            have g5 := of_decide_eq_false h5
            try simp only [Int.ofNat_eq_natCast, ge_iff_le, gt_iff_lt, Int.not_lt, Int.not_le] at g5
            first | (have hE : (rbE last (srch (rundP t n l g last) n (fun i => Int.ofNat i) (-1)) t o s) = 0 := by (simp_all [rbE]; done)) | (have hE : (rbE last (srch (rundP t n l g last) n (fun i => Int.ofNat i) (-1)) t o s) = 0 := by (simp_all [rbE]; omega)) | (have hE : (rbE last (srch (rundP t n l g last) n (fun i => Int.ofNat i) (-1)) t o s) = 1 := by (simp_all [rbE]; done)) | (have hE : (rbE last (srch (rundP t n l g last) n (fun i => Int.ofNat i) (-1)) t o s) = 1 := by (simp_all [rbE]; omega)) | (have hE : (rbE last (srch (rundP t n l g last) n (fun i => Int.ofNat i) (-1)) t o s) = 7 := by (simp_all [rbE]; done)) | (have hE : (rbE last (srch (rundP t n l g last) n (fun i => Int.ofNat i) (-1)) t o s) = 7 := by (simp_all [rbE]; omega))
            refine ⟨2000, _, _, _, rbeg_6 .., (ob_cons ?_ (ob_cons ?_ (ob_cons rfl (ob_cons ?_ (ob_cons rfl (ob_cons ?_ (ob_cons rfl (ob_cons ?_ (ob_cons ?_ (ob_cons ?_ (ob_cons ?_ (ob_cons h5 (ob_cons ?_ (ob_cons ?_ (ob_cons h4 (ob_cons h3 (ob_cons h2 (ob_cons h1 ob_nil))))))))))))))))))⟩
            ·
              first | exact wrap_nat64 _ (by simp; omega) (by simp; omega) | (exfalso; omega) | (rw [hE]; done) | exact hE.symm | (rw [hE]; rfl) | (rw [hE]; exact hl) | (rw [hE]; exact Nat.le_refl _) | (rw [hE]; exact fun _ => rfl) | (rw [hE]; exact .inr (snocd_rows (Nat.le_refl _))) | (rw [hE]; exact .inr (snocd_rows' rfl)) | (rw [hE]; show IntKind.i64.wrap _ = Int.ofNat n; rw [i64w] <;> simp <;> omega) | omega
            ·
              first | rfl | (exfalso; omega) | (rw [hE]; done) | exact hE.symm | (rw [hE]; rfl) | (rw [hE]; exact hl) | (rw [hE]; exact Nat.le_refl _) | (rw [hE]; exact fun _ => rfl) | (rw [hE]; exact .inr (snocd_rows (Nat.le_refl _))) | (rw [hE]; exact .inr (snocd_rows' rfl)) | (rw [hE]; show IntKind.i64.wrap _ = Int.ofNat n; rw [i64w] <;> simp <;> omega) | omega
            ·
              first | rfl | (exfalso; omega) | (rw [hE]; done) | exact hE.symm | (rw [hE]; rfl) | (rw [hE]; exact hl) | (rw [hE]; exact Nat.le_refl _) | (rw [hE]; exact fun _ => rfl) | (rw [hE]; exact .inr (snocd_rows (Nat.le_refl _))) | (rw [hE]; exact .inr (snocd_rows' rfl)) | (rw [hE]; show IntKind.i64.wrap _ = Int.ofNat n; rw [i64w] <;> simp <;> omega) | omega
            ·
              first | rfl | (exfalso; omega) | (rw [hE]; done) | exact hE.symm | (rw [hE]; rfl) | (rw [hE]; exact hl) | (rw [hE]; exact Nat.le_refl _) | (rw [hE]; exact fun _ => rfl) | (rw [hE]; exact .inr (snocd_rows (Nat.le_refl _))) | (rw [hE]; exact .inr (snocd_rows' rfl)) | (rw [hE]; show IntKind.i64.wrap _ = Int.ofNat n; rw [i64w] <;> simp <;> omega) | omega
            ·
              first | exact Nat.le_refl _ | omega | (exfalso; omega) | (rw [hE]; done) | exact hE.symm | (rw [hE]; rfl) | (rw [hE]; exact hl) | (rw [hE]; exact Nat.le_refl _) | (rw [hE]; exact fun _ => rfl) | (rw [hE]; exact .inr (snocd_rows (Nat.le_refl _))) | (rw [hE]; exact .inr (snocd_rows' rfl)) | (rw [hE]; show IntKind.i64.wrap _ = Int.ofNat n; rw [i64w] <;> simp <;> omega) | omega
            ·
              first | exact .inl ⟨rfl, rfl⟩ | (exfalso; omega) | (rw [hE]; done) | exact hE.symm | (rw [hE]; rfl) | (rw [hE]; exact hl) | (rw [hE]; exact Nat.le_refl _) | (rw [hE]; exact fun _ => rfl) | (rw [hE]; exact .inr (snocd_rows (Nat.le_refl _))) | (rw [hE]; exact .inr (snocd_rows' rfl)) | (rw [hE]; show IntKind.i64.wrap _ = Int.ofNat n; rw [i64w] <;> simp <;> omega) | omega
            ·
              first | (apply Nat.ble_eq_true_of_le; omega) | (simp [Nat.blt_eq]; omega) | (exfalso; omega) | (rw [hE]; done) | exact hE.symm | (rw [hE]; rfl) | (rw [hE]; exact hl) | (rw [hE]; exact Nat.le_refl _) | (rw [hE]; exact fun _ => rfl) | (rw [hE]; exact .inr (snocd_rows (Nat.le_refl _))) | (rw [hE]; exact .inr (snocd_rows' rfl)) | (rw [hE]; show IntKind.i64.wrap _ = Int.ofNat n; rw [i64w] <;> simp <;> omega) | omega
            ·
              first | (apply Nat.ble_eq_true_of_le; omega) | (simp [Nat.blt_eq]; omega) | (exfalso; omega) | (rw [hE]; done) | exact hE.symm | (rw [hE]; rfl) | (rw [hE]; exact hl) | (rw [hE]; exact Nat.le_refl _) | (rw [hE]; exact fun _ => rfl) | (rw [hE]; exact .inr (snocd_rows (Nat.le_refl _))) | (rw [hE]; exact .inr (snocd_rows' rfl)) | (rw [hE]; show IntKind.i64.wrap _ = Int.ofNat n; rw [i64w] <;> simp <;> omega) | omega
            ·
              first | exact Nat.le_refl _ | omega | (exfalso; omega) | (rw [hE]; done) | exact hE.symm | (rw [hE]; rfl) | (rw [hE]; exact hl) | (rw [hE]; exact Nat.le_refl _) | (rw [hE]; exact fun _ => rfl) | (rw [hE]; exact .inr (snocd_rows (Nat.le_refl _))) | (rw [hE]; exact .inr (snocd_rows' rfl)) | (rw [hE]; show IntKind.i64.wrap _ = Int.ofNat n; rw [i64w] <;> simp <;> omega) | omega
            ·
              first | exact Nat.le_refl _ | omega | (exfalso; omega) | (rw [hE]; done) | exact hE.symm | (rw [hE]; rfl) | (rw [hE]; exact hl) | (rw [hE]; exact Nat.le_refl _) | (rw [hE]; exact fun _ => rfl) | (rw [hE]; exact .inr (snocd_rows (Nat.le_refl _))) | (rw [hE]; exact .inr (snocd_rows' rfl)) | (rw [hE]; show IntKind.i64.wrap _ = Int.ofNat n; rw [i64w] <;> simp <;> omega) | omega
noncomputable def rbegSpec : LSpec := fun la lh => match la, lh with
  | [.ptr z1 z2 z3, .sym .i64 t, .sym .i64 o, .sym .u64 ky, .sym .u64 va, .sym .i64 s], [(z4, .cells z5 [.ss z6 z7 z8 n none, .sym .i64 last]), (z9, .arr z10 z11 false l g)] =>
    match Nat.beq z1 1 && (Nat.beq z2 0 && (Nat.beq z3 0 && (Nat.beq z4 1 && (Nat.beq z5 2 && (Nat.beq z6 9 && (Nat.beq z7 2 && (Nat.beq z8 0 && (Nat.beq z9 2 && (Nat.beq z10 9 && (shBeq z11 dSh)))))))))) with
    | true => some (rbegR t o ky va s n l g last)
    | false => none
  | _, _ => none
theorem rbegSpec_ok (la : List AV) (lh : List (Nat × AO)) (R : LR) (h : rbegSpec la lh = some R) : LocOk Try.prog 26 la lh R := by
  unfold rbegSpec at h
  split at h
  · rename_i z1 z2 z3 t o ky va s z4 z5 z6 z7 z8 n last z9 z10 z11 l g
    split at h
    · rename_i hb
      simp only [Bool.and_eq_true] at hb
      obtain ⟨e1, e2, e3, e4, e5, e6, e7, e8, e9, e10, e11⟩ := hb
      have e1 := Nat.eq_of_beq_eq_true e1; subst e1
      have e2 := Nat.eq_of_beq_eq_true e2; subst e2
      have e3 := Nat.eq_of_beq_eq_true e3; subst e3
      have e4 := Nat.eq_of_beq_eq_true e4; subst e4
      have e5 := Nat.eq_of_beq_eq_true e5; subst e5
      have e6 := Nat.eq_of_beq_eq_true e6; subst e6
      have e7 := Nat.eq_of_beq_eq_true e7; subst e7
      have e8 := Nat.eq_of_beq_eq_true e8; subst e8
      have e9 := Nat.eq_of_beq_eq_true e9; subst e9
      have e10 := Nat.eq_of_beq_eq_true e10; subst e10
      have e11 := shBeq_eq e11; subst e11
      cases h
      exact rbeg_loc t o ky va s n l g last
    · cases h
  · cases h

theorem rpnt_1 (c an va s : Int) (n l : Nat) (g : Nat → Nat → AV) (last : Int) : callB EH2 2000 28 [AV.ptr 1 0 0, AV.sym IntKind.i64 c, AV.sym IntKind.i64 an, AV.sym IntKind.u64 va, AV.sym IntKind.i64 s] (rpntH c an va s n l g last) (rpntR c an va s n l g last) [] [Hint.b true] =
 some ([1 = rpE n (fCl g) c an s,
 (0 : Nat) = 0,
 n = n,
 (none : Option Nat) = none,
 last = onOk (rpE n (fCl g) c an s) (if s > last then s else last) last,
 false = false,
 n ≤ l,
 dF (ptC (rpE n (fCl g) c an s) (fCl g) c an va s) = g ∧ plainSh dSh = true ∨ ∀ (i : Nat), i < n → rowOb dSh 0 (g i) (dF (ptC (rpE n (fCl g) c an s) (fCl g) c an va s) i),
 decide (c < 0) = true]) := by kernel_rfl
theorem rpnt_2 (c an va s : Int) (n l : Nat) (g : Nat → Nat → AV) (last : Int) : callB EH2 2000 28 [AV.ptr 1 0 0, AV.sym IntKind.i64 c, AV.sym IntKind.i64 an, AV.sym IntKind.u64 va, AV.sym IntKind.i64 s] (rpntH c an va s n l g last) (rpntR c an va s n l g last) [] [Hint.b false, Hint.b true] =
 some ([1 = rpE n (fCl g) c an s,
 (0 : Nat) = 0,
 n = n,
 (none : Option Nat) = none,
 last = onOk (rpE n (fCl g) c an s) (if s > last then s else last) last,
 false = false,
 n ≤ l,
 dF (ptC (rpE n (fCl g) c an s) (fCl g) c an va s) = g ∧ plainSh dSh = true ∨ ∀ (i : Nat), i < n → rowOb dSh 0 (g i) (dF (ptC (rpE n (fCl g) c an s) (fCl g) c an va s) i),
 decide (c ≥ Int.ofNat n) = true,
 decide (c < 0) = false]) := by kernel_rfl
theorem rpnt_3 (c an va s : Int) (n l : Nat) (g : Nat → Nat → AV) (last : Int) : callB EH2 2000 28 [AV.ptr 1 0 0, AV.sym IntKind.i64 c, AV.sym IntKind.i64 an, AV.sym IntKind.u64 va, AV.sym IntKind.i64 s] (rpntH c an va s n l g last) (rpntR c an va s n l g last) [] [Hint.b false, Hint.b false, Hint.b true] =
 some ([1 = rpE n (fCl g) c an s,
 (0 : Nat) = 0,
 n = n,
 (none : Option Nat) = none,
 last = onOk (rpE n (fCl g) c an s) (if s > last then s else last) last,
 false = false,
 n ≤ l,
 dF (ptC (rpE n (fCl g) c an s) (fCl g) c an va s) = g ∧ plainSh dSh = true ∨ ∀ (i : Nat), i < n → rowOb dSh 0 (g i) (dF (ptC (rpE n (fCl g) c an s) (fCl g) c an va s) i),
 decide (s < avInt (g (0 + c.toNat) 6)) = true,
 (0 + c.toNat).blt l = true,
 (c.toNat.blt n && decide (0 ≤ c)) = true,
 decide (c ≥ Int.ofNat n) = false,
 decide (c < 0) = false]) := by kernel_rfl
theorem rpnt_4 (c an va s : Int) (n l : Nat) (g : Nat → Nat → AV) (last : Int) : callB EH2 2000 28 [AV.ptr 1 0 0, AV.sym IntKind.i64 c, AV.sym IntKind.i64 an, AV.sym IntKind.u64 va, AV.sym IntKind.i64 s] (rpntH c an va s n l g last) (rpntR c an va s n l g last) [] [Hint.b false, Hint.b false, Hint.b false, Hint.b true, Hint.b true] =
 some ([1 = rpE n (fCl g) c an s,
 (0 : Nat) = 0,
 n = n,
 (none : Option Nat) = none,
 last = onOk (rpE n (fCl g) c an s) (if s > last then s else last) last,
 false = false,
 n ≤ l,
 dF (ptC (rpE n (fCl g) c an s) (fCl g) c an va s) = g ∧ plainSh dSh = true ∨ ∀ (i : Nat), i < n → rowOb dSh 0 (g i) (dF (ptC (rpE n (fCl g) c an s) (fCl g) c an va s) i),
 (an != 2) = true,
 (an != 1) = true,
 decide (s < avInt (g (0 + c.toNat) 6)) = false,
 (0 + c.toNat).blt l = true,
 (c.toNat.blt n && decide (0 ≤ c)) = true,
 decide (c ≥ Int.ofNat n) = false,
 decide (c < 0) = false]) := by kernel_rfl
theorem rpnt_5 (c an va s : Int) (n l : Nat) (g : Nat → Nat → AV) (last : Int) : callB EH2 2000 28 [AV.ptr 1 0 0, AV.sym IntKind.i64 c, AV.sym IntKind.i64 an, AV.sym IntKind.u64 va, AV.sym IntKind.i64 s] (rpntH c an va s n l g last) (rpntR c an va s n l g last) [] [Hint.b false, Hint.b false, Hint.b false, Hint.b true, Hint.b false, Hint.b true] =
 some ([4 = rpE n (fCl g) c an s,
 (0 : Nat) = 0,
 n = n,
 (none : Option Nat) = none,
 last = onOk (rpE n (fCl g) c an s) (if s > last then s else last) last,
 false = false,
 n ≤ l,
 dF (ptC (rpE n (fCl g) c an s) (fCl g) c an va s) = g ∧ plainSh dSh = true ∨ ∀ (i : Nat), i < n → rowOb dSh 0 (g i) (dF (ptC (rpE n (fCl g) c an s) (fCl g) c an va s) i),
 decide (avInt (g (0 + c.toNat) 8) ≥ 0) = true,
 (0 + c.toNat).blt l = true,
 (c.toNat.blt n && decide (0 ≤ c)) = true,
 (an != 2) = false,
 (an != 1) = true,
 decide (s < avInt (g (0 + c.toNat) 6)) = false,
 (0 + c.toNat).blt l = true,
 (c.toNat.blt n && decide (0 ≤ c)) = true,
 decide (c ≥ Int.ofNat n) = false,
 decide (c < 0) = false]) := by kernel_rfl
theorem rpnt_6 (c an va s : Int) (n l : Nat) (g : Nat → Nat → AV) (last : Int) : callB EH2 2000 28 [AV.ptr 1 0 0, AV.sym IntKind.i64 c, AV.sym IntKind.i64 an, AV.sym IntKind.u64 va, AV.sym IntKind.i64 s] (rpntH c an va s n l g last) (rpntR c an va s n l g last) [] [Hint.b false, Hint.b false, Hint.b false, Hint.b true, Hint.b false, Hint.b false] =
 some ([0 = rpE n (fCl g) c an s,
 (0 : Nat) = 0,
 n = n,
 (none : Option Nat) = none,
 (if s > last then s else last) = onOk (rpE n (fCl g) c an s) (if s > last then s else last) last,
 false = false,
 n ≤ l,
 dF (ptC (rpE n (fCl g) c an s) (fCl g) c an va s) = upd (upd (upd g (0 + c.toNat) 4 (AV.sym IntKind.i64 an).cells) (0 + c.toNat) 5 (AV.sym IntKind.u64 va).cells) (0 + c.toNat) 7 (AV.sym IntKind.i64 s).cells ∧ plainSh dSh = true ∨ ∀ (i : Nat), i < n → rowOb dSh 0 (upd (upd (upd g (0 + c.toNat) 4 (AV.sym IntKind.i64 an).cells) (0 + c.toNat) 5 (AV.sym IntKind.u64 va).cells) (0 + c.toNat) 7 (AV.sym IntKind.i64 s).cells i) (dF (ptC (rpE n (fCl g) c an s) (fCl g) c an va s) i),
 (0 + c.toNat).blt l = true,
 (c.toNat.blt n && decide (0 ≤ c)) = true,
 (0 + c.toNat).blt l = true,
 (c.toNat.blt n && decide (0 ≤ c)) = true,
 (0 + c.toNat).blt l = true,
 (c.toNat.blt n && decide (0 ≤ c)) = true,
 decide (avInt (g (0 + c.toNat) 8) ≥ 0) = false,
 (0 + c.toNat).blt l = true,
 (c.toNat.blt n && decide (0 ≤ c)) = true,
 (an != 2) = false,
 (an != 1) = true,
 decide (s < avInt (g (0 + c.toNat) 6)) = false,
 (0 + c.toNat).blt l = true,
 (c.toNat.blt n && decide (0 ≤ c)) = true,
 decide (c ≥ Int.ofNat n) = false,
 decide (c < 0) = false]) := by kernel_rfl
theorem rpnt_7 (c an va s : Int) (n l : Nat) (g : Nat → Nat → AV) (last : Int) : callB EH2 2000 28 [AV.ptr 1 0 0, AV.sym IntKind.i64 c, AV.sym IntKind.i64 an, AV.sym IntKind.u64 va, AV.sym IntKind.i64 s] (rpntH c an va s n l g last) (rpntR c an va s n l g last) [] [Hint.b false, Hint.b false, Hint.b false, Hint.b false, Hint.b true] =
 some ([4 = rpE n (fCl g) c an s,
 (0 : Nat) = 0,
 n = n,
 (none : Option Nat) = none,
 last = onOk (rpE n (fCl g) c an s) (if s > last then s else last) last,
 false = false,
 n ≤ l,
 dF (ptC (rpE n (fCl g) c an s) (fCl g) c an va s) = g ∧ plainSh dSh = true ∨ ∀ (i : Nat), i < n → rowOb dSh 0 (g i) (dF (ptC (rpE n (fCl g) c an s) (fCl g) c an va s) i),
 decide (avInt (g (0 + c.toNat) 8) ≥ 0) = true,
 (0 + c.toNat).blt l = true,
 (c.toNat.blt n && decide (0 ≤ c)) = true,
 (an != 1) = false,
 decide (s < avInt (g (0 + c.toNat) 6)) = false,
 (0 + c.toNat).blt l = true,
 (c.toNat.blt n && decide (0 ≤ c)) = true,
 decide (c ≥ Int.ofNat n) = false,
 decide (c < 0) = false]) := by kernel_rfl
theorem rpnt_8 (c an va s : Int) (n l : Nat) (g : Nat → Nat → AV) (last : Int) : callB EH2 2000 28 [AV.ptr 1 0 0, AV.sym IntKind.i64 c, AV.sym IntKind.i64 an, AV.sym IntKind.u64 va, AV.sym IntKind.i64 s] (rpntH c an va s n l g last) (rpntR c an va s n l g last) [] [Hint.b false, Hint.b false, Hint.b false, Hint.b false, Hint.b false] =
 some ([0 = rpE n (fCl g) c an s,
 (0 : Nat) = 0,
 n = n,
 (none : Option Nat) = none,
 (if s > last then s else last) = onOk (rpE n (fCl g) c an s) (if s > last then s else last) last,
 false = false,
 n ≤ l,
 dF (ptC (rpE n (fCl g) c an s) (fCl g) c an va s) = upd (upd (upd g (0 + c.toNat) 4 (AV.sym IntKind.i64 an).cells) (0 + c.toNat) 5 (AV.sym IntKind.u64 va).cells) (0 + c.toNat) 7 (AV.sym IntKind.i64 s).cells ∧ plainSh dSh = true ∨ ∀ (i : Nat), i < n → rowOb dSh 0 (upd (upd (upd g (0 + c.toNat) 4 (AV.sym IntKind.i64 an).cells) (0 + c.toNat) 5 (AV.sym IntKind.u64 va).cells) (0 + c.toNat) 7 (AV.sym IntKind.i64 s).cells i) (dF (ptC (rpE n (fCl g) c an s) (fCl g) c an va s) i),
 (0 + c.toNat).blt l = true,
 (c.toNat.blt n && decide (0 ≤ c)) = true,
 (0 + c.toNat).blt l = true,
 (c.toNat.blt n && decide (0 ≤ c)) = true,
 (0 + c.toNat).blt l = true,
 (c.toNat.blt n && decide (0 ≤ c)) = true,
 decide (avInt (g (0 + c.toNat) 8) ≥ 0) = false,
 (0 + c.toNat).blt l = true,
 (c.toNat.blt n && decide (0 ≤ c)) = true,
 (an != 1) = false,
 decide (s < avInt (g (0 + c.toNat) 6)) = false,
 (0 + c.toNat).blt l = true,
 (c.toNat.blt n && decide (0 ≤ c)) = true,
 decide (c ≥ Int.ofNat n) = false,
 decide (c < 0) = false]) := by kernel_rfl
theorem rpnt_loc (c an va s : Int) (n l : Nat) (g : Nat → Nat → AV) (last : Int) : LocOk Try.prog 28 [.ptr 1 0 0, .sym .i64 c, .sym .i64 an, .sym .u64 va, .sym .i64 s] (rpntH c an va s n l g last) (rpntR c an va s n l g last) := by
  refine loc_of_call EH2_ok (fun hp => ?_)
  have hl : n ≤ l := hp _ (List.mem_cons_self ..)
  have hm : n ≤ 100000 := hp _ (List.mem_cons_of_mem _ (List.mem_cons_self ..))
  clear hp
  cases h1 : (decide (c < 0)) with
  | true =>
    have g1 := of_decide_eq_true h1
    try simp only [Int.ofNat_eq_natCast, ge_iff_le, gt_iff_lt, Int.not_lt, Int.not_le] at g1
    first | (have hE : (rpE n (fCl g) c an s) = 0 := by (simp_all [rpE, fCl, clOf]; done)) | (have hE : (rpE n (fCl g) c an s) = 0 := by (simp_all [rpE, fCl, clOf]; omega)) | (have hE : (rpE n (fCl g) c an s) = 1 := by (simp_all [rpE, fCl, clOf]; done)) | (have hE : (rpE n (fCl g) c an s) = 1 := by (simp_all [rpE, fCl, clOf]; omega)) | (have hE : (rpE n (fCl g) c an s) = 4 := by (simp_all [rpE, fCl, clOf]; done)) | (have hE : (rpE n (fCl g) c an s) = 4 := by (simp_all [rpE, fCl, clOf]; omega))
    refine ⟨2000, _, _, _, rpnt_1 .., (ob_cons ?_ (ob_cons rfl (ob_cons rfl (ob_cons rfl (ob_cons ?_ (ob_cons rfl (ob_cons ?_ (ob_cons ?_ (ob_cons h1 ob_nil)))))))))⟩
    ·
      first | rfl | (exfalso; omega) | (rw [hE]; done) | exact hE.symm | (rw [hE]; rfl) | (rw [hE]; exact hl) | (rw [hE]; exact Nat.le_refl _) | (rw [hE]; exact fun _ => rfl) | (rw [hE]; refine .inr (fun i hi => row_d ?_); simp [ptC, fCl, hE]; done) | (rw [hE]; refine .inr (fun i hi => row_d ?_); by_cases q : i = c.toNat <;> simp [ptC, fCl, upd, clOf, nth, AV.cells, avI_s, avI_i, ofVal, cellOf, q]; done)
    ·
      first | rfl | (exfalso; omega) | (rw [hE]; done) | exact hE.symm | (rw [hE]; rfl) | (rw [hE]; exact hl) | (rw [hE]; exact Nat.le_refl _) | (rw [hE]; exact fun _ => rfl) | (rw [hE]; refine .inr (fun i hi => row_d ?_); simp [ptC, fCl, hE]; done) | (rw [hE]; refine .inr (fun i hi => row_d ?_); by_cases q : i = c.toNat <;> simp [ptC, fCl, upd, clOf, nth, AV.cells, avI_s, avI_i, ofVal, cellOf, q]; done)
    ·
      first | exact Nat.le_refl _ | omega | (exfalso; omega) | (rw [hE]; done) | exact hE.symm | (rw [hE]; rfl) | (rw [hE]; exact hl) | (rw [hE]; exact Nat.le_refl _) | (rw [hE]; exact fun _ => rfl) | (rw [hE]; refine .inr (fun i hi => row_d ?_); simp [ptC, fCl, hE]; done) | (rw [hE]; refine .inr (fun i hi => row_d ?_); by_cases q : i = c.toNat <;> simp [ptC, fCl, upd, clOf, nth, AV.cells, avI_s, avI_i, ofVal, cellOf, q]; done)
    ·
      first | exact .inl ⟨rfl, rfl⟩ | (exfalso; omega) | (rw [hE]; done) | exact hE.symm | (rw [hE]; rfl) | (rw [hE]; exact hl) | (rw [hE]; exact Nat.le_refl _) | (rw [hE]; exact fun _ => rfl) | (rw [hE]; refine .inr (fun i hi => row_d ?_); simp [ptC, fCl, hE]; done) | (rw [hE]; refine .inr (fun i hi => row_d ?_); by_cases q : i = c.toNat <;> simp [ptC, fCl, upd, clOf, nth, AV.cells, avI_s, avI_i, ofVal, cellOf, q]; done)
  | false =>
    have g1 := of_decide_eq_false h1
    try simp only [Int.ofNat_eq_natCast, ge_iff_le, gt_iff_lt, Int.not_lt, Int.not_le] at g1
    cases h2 : (decide (c ≥ Int.ofNat n)) with
    | true =>
      have g2 := of_decide_eq_true h2
      try simp only [Int.ofNat_eq_natCast, ge_iff_le, gt_iff_lt, Int.not_lt, Int.not_le] at g2
      first | (have hE : (rpE n (fCl g) c an s) = 0 := by (simp_all [rpE, fCl, clOf]; done)) | (have hE : (rpE n (fCl g) c an s) = 0 := by (simp_all [rpE, fCl, clOf]; omega)) | (have hE : (rpE n (fCl g) c an s) = 1 := by (simp_all [rpE, fCl, clOf]; done)) | (have hE : (rpE n (fCl g) c an s) = 1 := by (simp_all [rpE, fCl, clOf]; omega)) | (have hE : (rpE n (fCl g) c an s) = 4 := by (simp_all [rpE, fCl, clOf]; done)) | (have hE : (rpE n (fCl g) c an s) = 4 := by (simp_all [rpE, fCl, clOf]; omega))
      refine ⟨2000, _, _, _, rpnt_2 .., (ob_cons ?_ (ob_cons rfl (ob_cons rfl (ob_cons rfl (ob_cons ?_ (ob_cons rfl (ob_cons ?_ (ob_cons ?_ (ob_cons h2 (ob_cons h1 ob_nil))))))))))⟩
      ·
        first | rfl | (exfalso; omega) | (rw [hE]; done) | exact hE.symm | (rw [hE]; rfl) | (rw [hE]; exact hl) | (rw [hE]; exact Nat.le_refl _) | (rw [hE]; exact fun _ => rfl) | (rw [hE]; refine .inr (fun i hi => row_d ?_); simp [ptC, fCl, hE]; done) | (rw [hE]; refine .inr (fun i hi => row_d ?_); by_cases q : i = c.toNat <;> simp [ptC, fCl, upd, clOf, nth, AV.cells, avI_s, avI_i, ofVal, cellOf, q]; done)
      ·
        first | rfl | (exfalso; omega) | (rw [hE]; done) | exact hE.symm | (rw [hE]; rfl) | (rw [hE]; exact hl) | (rw [hE]; exact Nat.le_refl _) | (rw [hE]; exact fun _ => rfl) | (rw [hE]; refine .inr (fun i hi => row_d ?_); simp [ptC, fCl, hE]; done) | (rw [hE]; refine .inr (fun i hi => row_d ?_); by_cases q : i = c.toNat <;> simp [ptC, fCl, upd, clOf, nth, AV.cells, avI_s, avI_i, ofVal, cellOf, q]; done)
      ·
        first | exact Nat.le_refl _ | omega | (exfalso; omega) | (rw [hE]; done) | exact hE.symm | (rw [hE]; rfl) | (rw [hE]; exact hl) | (rw [hE]; exact Nat.le_refl _) | (rw [hE]; exact fun _ => rfl) | (rw [hE]; refine .inr (fun i hi => row_d ?_); simp [ptC, fCl, hE]; done) | (rw [hE]; refine .inr (fun i hi => row_d ?_); by_cases q : i = c.toNat <;> simp [ptC, fCl, upd, clOf, nth, AV.cells, avI_s, avI_i, ofVal, cellOf, q]; done)
      ·
        first | exact .inl ⟨rfl, rfl⟩ | (exfalso; omega) | (rw [hE]; done) | exact hE.symm | (rw [hE]; rfl) | (rw [hE]; exact hl) | (rw [hE]; exact Nat.le_refl _) | (rw [hE]; exact fun _ => rfl) | (rw [hE]; refine .inr (fun i hi => row_d ?_); simp [ptC, fCl, hE]; done) | (rw [hE]; refine .inr (fun i hi => row_d ?_); by_cases q : i = c.toNat <;> simp [ptC, fCl, upd, clOf, nth, AV.cells, avI_s, avI_i, ofVal, cellOf, q]; done)
    | false =>
      have g2 := of_decide_eq_false h2
      try simp only [Int.ofNat_eq_natCast, ge_iff_le, gt_iff_lt, Int.not_lt, Int.not_le] at g2
      cases h3 : (decide (s < avInt (g (0 + c.toNat) 6))) with
      | true =>
        have g3 := of_decide_eq_true h3
        try simp only [Int.ofNat_eq_natCast, ge_iff_le, gt_iff_lt, Int.not_lt, Int.not_le] at g3
        first | (have hE : (rpE n (fCl g) c an s) = 0 := by (simp_all [rpE, fCl, clOf]; done)) | (have hE : (rpE n (fCl g) c an s) = 0 := by (simp_all [rpE, fCl, clOf]; omega)) | (have hE : (rpE n (fCl g) c an s) = 1 := by (simp_all [rpE, fCl, clOf]; done)) | (have hE : (rpE n (fCl g) c an s) = 1 := by (simp_all [rpE, fCl, clOf]; omega)) | (have hE : (rpE n (fCl g) c an s) = 4 := by (simp_all [rpE, fCl, clOf]; done)) | (have hE : (rpE n (fCl g) c an s) = 4 := by (simp_all [rpE, fCl, clOf]; omega))
        refine ⟨2000, _, _, _, rpnt_3 .., (ob_cons ?_ (ob_cons rfl (ob_cons rfl (ob_cons rfl (ob_cons ?_ (ob_cons rfl (ob_cons ?_ (ob_cons ?_ (ob_cons h3 (ob_cons ?_ (ob_cons ?_ (ob_cons h2 (ob_cons h1 ob_nil)))))))))))))⟩
        ·
          first | rfl | (exfalso; omega) | (rw [hE]; done) | exact hE.symm | (rw [hE]; rfl) | (rw [hE]; exact hl) | (rw [hE]; exact Nat.le_refl _) | (rw [hE]; exact fun _ => rfl) | (rw [hE]; refine .inr (fun i hi => row_d ?_); simp [ptC, fCl, hE]; done) | (rw [hE]; refine .inr (fun i hi => row_d ?_); by_cases q : i = c.toNat <;> simp [ptC, fCl, upd, clOf, nth, AV.cells, avI_s, avI_i, ofVal, cellOf, q]; done)
        ·
          first | rfl | (exfalso; omega) | (rw [hE]; done) | exact hE.symm | (rw [hE]; rfl) | (rw [hE]; exact hl) | (rw [hE]; exact Nat.le_refl _) | (rw [hE]; exact fun _ => rfl) | (rw [hE]; refine .inr (fun i hi => row_d ?_); simp [ptC, fCl, hE]; done) | (rw [hE]; refine .inr (fun i hi => row_d ?_); by_cases q : i = c.toNat <;> simp [ptC, fCl, upd, clOf, nth, AV.cells, avI_s, avI_i, ofVal, cellOf, q]; done)
        ·
          first | exact Nat.le_refl _ | omega | (exfalso; omega) | (rw [hE]; done) | exact hE.symm | (rw [hE]; rfl) | (rw [hE]; exact hl) | (rw [hE]; exact Nat.le_refl _) | (rw [hE]; exact fun _ => rfl) | (rw [hE]; refine .inr (fun i hi => row_d ?_); simp [ptC, fCl, hE]; done) | (rw [hE]; refine .inr (fun i hi => row_d ?_); by_cases q : i = c.toNat <;> simp [ptC, fCl, upd, clOf, nth, AV.cells, avI_s, avI_i, ofVal, cellOf, q]; done)
        ·
          first | exact .inl ⟨rfl, rfl⟩ | (exfalso; omega) | (rw [hE]; done) | exact hE.symm | (rw [hE]; rfl) | (rw [hE]; exact hl) | (rw [hE]; exact Nat.le_refl _) | (rw [hE]; exact fun _ => rfl) | (rw [hE]; refine .inr (fun i hi => row_d ?_); simp [ptC, fCl, hE]; done) | (rw [hE]; refine .inr (fun i hi => row_d ?_); by_cases q : i = c.toNat <;> simp [ptC, fCl, upd, clOf, nth, AV.cells, avI_s, avI_i, ofVal, cellOf, q]; done)
        ·
          first | (apply Nat.ble_eq_true_of_le; omega) | (simp [Nat.blt_eq]; omega) | (exfalso; omega) | (rw [hE]; done) | exact hE.symm | (rw [hE]; rfl) | (rw [hE]; exact hl) | (rw [hE]; exact Nat.le_refl _) | (rw [hE]; exact fun _ => rfl) | (rw [hE]; refine .inr (fun i hi => row_d ?_); simp [ptC, fCl, hE]; done) | (rw [hE]; refine .inr (fun i hi => row_d ?_); by_cases q : i = c.toNat <;> simp [ptC, fCl, upd, clOf, nth, AV.cells, avI_s, avI_i, ofVal, cellOf, q]; done)
        ·
          first | (apply Nat.ble_eq_true_of_le; omega) | (simp [Nat.blt_eq]; omega) | (exfalso; omega) | (rw [hE]; done) | exact hE.symm | (rw [hE]; rfl) | (rw [hE]; exact hl) | (rw [hE]; exact Nat.le_refl _) | (rw [hE]; exact fun _ => rfl) | (rw [hE]; refine .inr (fun i hi => row_d ?_); simp [ptC, fCl, hE]; done) | (rw [hE]; refine .inr (fun i hi => row_d ?_); by_cases q : i = c.toNat <;> simp [ptC, fCl, upd, clOf, nth, AV.cells, avI_s, avI_i, ofVal, cellOf, q]; done)
      | false =>
        have g3 := of_decide_eq_false h3
        try simp only [Int.ofNat_eq_natCast, ge_iff_le, gt_iff_lt, Int.not_lt, Int.not_le] at g3
        cases h4 : (an != 1) with
        | true =>
          cases h5 : (an != 2) with
          | true =>
            first | (have hE : (rpE n (fCl g) c an s) = 0 := by (simp_all [rpE, fCl, clOf]; done)) | (have hE : (rpE n (fCl g) c an s) = 0 := by (simp_all [rpE, fCl, clOf]; omega)) | (have hE : (rpE n (fCl g) c an s) = 1 := by (simp_all [rpE, fCl, clOf]; done)) | (have hE : (rpE n (fCl g) c an s) = 1 := by (simp_all [rpE, fCl, clOf]; omega)) | (have hE : (rpE n (fCl g) c an s) = 4 := by (simp_all [rpE, fCl, clOf]; done)) | (have hE : (rpE n (fCl g) c an s) = 4 := by (simp_all [rpE, fCl, clOf]; omega))
            refine ⟨2000, _, _, _, rpnt_4 .., (ob_cons ?_ (ob_cons rfl (ob_cons rfl (ob_cons rfl (ob_cons ?_ (ob_cons rfl (ob_cons ?_ (ob_cons ?_ (ob_cons h5 (ob_cons h4 (ob_cons h3 (ob_cons ?_ (ob_cons ?_ (ob_cons h2 (ob_cons h1 ob_nil)))))))))))))))⟩
            ·
              first | rfl | (exfalso; omega) | (rw [hE]; done) | exact hE.symm | (rw [hE]; rfl) | (rw [hE]; exact hl) | (rw [hE]; exact Nat.le_refl _) | (rw [hE]; exact fun _ => rfl) | (rw [hE]; refine .inr (fun i hi => row_d ?_); simp [ptC, fCl, hE]; done) | (rw [hE]; refine .inr (fun i hi => row_d ?_); by_cases q : i = c.toNat <;> simp [ptC, fCl, upd, clOf, nth, AV.cells, avI_s, avI_i, ofVal, cellOf, q]; done)
            ·
              first | rfl | (exfalso; omega) | (rw [hE]; done) | exact hE.symm | (rw [hE]; rfl) | (rw [hE]; exact hl) | (rw [hE]; exact Nat.le_refl _) | (rw [hE]; exact fun _ => rfl) | (rw [hE]; refine .inr (fun i hi => row_d ?_); simp [ptC, fCl, hE]; done) | (rw [hE]; refine .inr (fun i hi => row_d ?_); by_cases q : i = c.toNat <;> simp [ptC, fCl, upd, clOf, nth, AV.cells, avI_s, avI_i, ofVal, cellOf, q]; done)
            ·
              first | exact Nat.le_refl _ | omega | (exfalso; omega) | (rw [hE]; done) | exact hE.symm | (rw [hE]; rfl) | (rw [hE]; exact hl) | (rw [hE]; exact Nat.le_refl _) | (rw [hE]; exact fun _ => rfl) | (rw [hE]; refine .inr (fun i hi => row_d ?_); simp [ptC, fCl, hE]; done) | (rw [hE]; refine .inr (fun i hi => row_d ?_); by_cases q : i = c.toNat <;> simp [ptC, fCl, upd, clOf, nth, AV.cells, avI_s, avI_i, ofVal, cellOf, q]; done)
            ·
              first | exact .inl ⟨rfl, rfl⟩ | (exfalso; omega) | (rw [hE]; done) | exact hE.symm | (rw [hE]; rfl) | (rw [hE]; exact hl) | (rw [hE]; exact Nat.le_refl _) | (rw [hE]; exact fun _ => rfl) | (rw [hE]; refine .inr (fun i hi => row_d ?_); simp [ptC, fCl, hE]; done) | (rw [hE]; refine .inr (fun i hi => row_d ?_); by_cases q : i = c.toNat <;> simp [ptC, fCl, upd, clOf, nth, AV.cells, avI_s, avI_i, ofVal, cellOf, q]; done)
            ·
              first | (apply Nat.ble_eq_true_of_le; omega) | (simp [Nat.blt_eq]; omega) | (exfalso; omega) | (rw [hE]; done) | exact hE.symm | (rw [hE]; rfl) | (rw [hE]; exact hl) | (rw [hE]; exact Nat.le_refl _) | (rw [hE]; exact fun _ => rfl) | (rw [hE]; refine .inr (fun i hi => row_d ?_); simp [ptC, fCl, hE]; done) | (rw [hE]; refine .inr (fun i hi => row_d ?_); by_cases q : i = c.toNat <;> simp [ptC, fCl, upd, clOf, nth, AV.cells, avI_s, avI_i, ofVal, cellOf, q]; done)
            ·
              first | (apply Nat.ble_eq_true_of_le; omega) | (simp [Nat.blt_eq]; omega) | (exfalso; omega) | (rw [hE]; done) | exact hE.symm | (rw [hE]; rfl) | (rw [hE]; exact hl) | (rw [hE]; exact Nat.le_refl _) | (rw [hE]; exact fun _ => rfl) | (rw [hE]; refine .inr (fun i hi => row_d ?_); simp [ptC, fCl, hE]; done) | (rw [hE]; refine .inr (fun i hi => row_d ?_); by_cases q : i = c.toNat <;> simp [ptC, fCl, upd, clOf, nth, AV.cells, avI_s, avI_i, ofVal, cellOf, q]; done)
          | false =>
            cases h6 : (decide (avInt (g (0 + c.toNat) 8) ≥ 0)) with
            | true =>
              have g6 := of_decide_eq_true h6
              try simp only [Int.ofNat_eq_natCast, ge_iff_le, gt_iff_lt, Int.not_lt, Int.not_le] at g6
              first | (have hE : (rpE n (fCl g) c an s) = 0 := by (simp_all [rpE, fCl, clOf]; done)) | (have hE : (rpE n (fCl g) c an s) = 0 := by (simp_all [rpE, fCl, clOf]; omega)) | (have hE : (rpE n (fCl g) c an s) = 1 := by (simp_all [rpE, fCl, clOf]; done)) | (have hE : (rpE n (fCl g) c an s) = 1 := by (simp_all [rpE, fCl, clOf]; omega)) | (have hE : (rpE n (fCl g) c an s) = 4 := by (simp_all [rpE, fCl, clOf]; done)) | (have hE : (rpE n (fCl g) c an s) = 4 := by (simp_all [rpE, fCl, clOf]; omega))
              refine ⟨2000, _, _, _, rpnt_5 .., (ob_cons ?_ (ob_cons rfl (ob_cons rfl (ob_cons rfl (ob_cons ?_ (ob_cons rfl (ob_cons ?_ (ob_cons ?_ (ob_cons h6 (ob_cons ?_ (ob_cons ?_ (ob_cons h5 (ob_cons h4 (ob_cons h3 (ob_cons ?_ (ob_cons ?_ (ob_cons h2 (ob_cons h1 ob_nil))))))))))))))))))⟩
              ·
                first | rfl | (exfalso; omega) | (rw [hE]; done) | exact hE.symm | (rw [hE]; rfl) | (rw [hE]; exact hl) | (rw [hE]; exact Nat.le_refl _) | (rw [hE]; exact fun _ => rfl) | (rw [hE]; refine .inr (fun i hi => row_d ?_); simp [ptC, fCl, hE]; done) | (rw [hE]; refine .inr (fun i hi => row_d ?_); by_cases q : i = c.toNat <;> simp [ptC, fCl, upd, clOf, nth, AV.cells, avI_s, avI_i, ofVal, cellOf, q]; done)
              ·
                first | rfl | (exfalso; omega) | (rw [hE]; done) | exact hE.symm | (rw [hE]; rfl) | (rw [hE]; exact hl) | (rw [hE]; exact Nat.le_refl _) | (rw [hE]; exact fun _ => rfl) | (rw [hE]; refine .inr (fun i hi => row_d ?_); simp [ptC, fCl, hE]; done) | (rw [hE]; refine .inr (fun i hi => row_d ?_); by_cases q : i = c.toNat <;> simp [ptC, fCl, upd, clOf, nth, AV.cells, avI_s, avI_i, ofVal, cellOf, q]; done)
              ·
                first | exact Nat.le_refl _ | omega | (exfalso; omega) | (rw [hE]; done) | exact hE.symm | (rw [hE]; rfl) | (rw [hE]; exact hl) | (rw [hE]; exact Nat.le_refl _) | (rw [hE]; exact fun _ => rfl) | (rw [hE]; refine .inr (fun i hi => row_d ?_); simp [ptC, fCl, hE]; done) | (rw [hE]; refine .inr (fun i hi => row_d ?_); by_cases q : i = c.toNat <;> simp [ptC, fCl, upd, clOf, nth, AV.cells, avI_s, avI_i, ofVal, cellOf, q]; done)
              ·
                first | exact .inl ⟨rfl, rfl⟩ | (exfalso; omega) | (rw [hE]; done) | exact hE.symm | (rw [hE]; rfl) | (rw [hE]; exact hl) | (rw [hE]; exact Nat.le_refl _) | (rw [hE]; exact fun _ => rfl) | (rw [hE]; refine .inr (fun i hi => row_d ?_); simp [ptC, fCl, hE]; done) | (rw [hE]; refine .inr (fun i hi => row_d ?_); by_cases q : i = c.toNat <;> simp [ptC, fCl, upd, clOf, nth, AV.cells, avI_s, avI_i, ofVal, cellOf, q]; done)
              ·
                first | (apply Nat.ble_eq_true_of_le; omega) | (simp [Nat.blt_eq]; omega) | (exfalso; omega) | (rw [hE]; done) | exact hE.symm | (rw [hE]; rfl) | (rw [hE]; exact hl) | (rw [hE]; exact Nat.le_refl _) | (rw [hE]; exact fun _ => rfl) | (rw [hE]; refine .inr (fun i hi => row_d ?_); simp [ptC, fCl, hE]; done) | (rw [hE]; refine .inr (fun i hi => row_d ?_); by_cases q : i = c.toNat <;> simp [ptC, fCl, upd, clOf, nth, AV.cells, avI_s, avI_i, ofVal, cellOf, q]; done)
              ·
                first | (apply Nat.ble_eq_true_of_le; omega) | (simp [Nat.blt_eq]; omega) | (exfalso; omega) | (rw [hE]; done) | exact hE.symm | (rw [hE]; rfl) | (rw [hE]; exact hl) | (rw [hE]; exact Nat.le_refl _) | (rw [hE]; exact fun _ => rfl) | (rw [hE]; refine .inr (fun i hi => row_d ?_); simp [ptC, fCl, hE]; done) | (rw [hE]; refine .inr (fun i hi => row_d ?_); by_cases q : i = c.toNat <;> simp [ptC, fCl, upd, clOf, nth, AV.cells, avI_s, avI_i, ofVal, cellOf, q]; done)
              ·
                first | (apply Nat.ble_eq_true_of_le; omega) | (simp [Nat.blt_eq]; omega) | (exfalso; omega) | (rw [hE]; done) | exact hE.symm | (rw [hE]; rfl) | (rw [hE]; exact hl) | (rw [hE]; exact Nat.le_refl _) | (rw [hE]; exact fun _ => rfl) | (rw [hE]; refine .inr (fun i hi => row_d ?_); simp [ptC, fCl, hE]; done) | (rw [hE]; refine .inr (fun i hi => row_d ?_); by_cases q : i = c.toNat <;> simp [ptC, fCl, upd, clOf, nth, AV.cells, avI_s, avI_i, ofVal, cellOf, q]; done)
              ·
                first | (apply Nat.ble_eq_true_of_le; omega) | (simp [Nat.blt_eq]; omega) | (exfalso; omega) | (rw [hE]; done) | exact hE.symm | (rw [hE]; rfl) | (rw [hE]; exact hl) | (rw [hE]; exact Nat.le_refl _) | (rw [hE]; exact fun _ => rfl) | (rw [hE]; refine .inr (fun i hi => row_d ?_); simp [ptC, fCl, hE]; done) | (rw [hE]; refine .inr (fun i hi => row_d ?_); by_cases q : i = c.toNat <;> simp [ptC, fCl, upd, clOf, nth, AV.cells, avI_s, avI_i, ofVal, cellOf, q]; done)
            | false =>
              have g6 := of_decide_eq_false h6
              try simp only [Int.ofNat_eq_natCast, ge_iff_le, gt_iff_lt, Int.not_lt, Int.not_le] at g6
              first | (have hE : (rpE n (fCl g) c an s) = 0 := by (simp_all [rpE, fCl, clOf]; done)) | (have hE : (rpE n (fCl g) c an s) = 0 := by (simp_all [rpE, fCl, clOf]; omega)) | (have hE : (rpE n (fCl g) c an s) = 1 := by (simp_all [rpE, fCl, clOf]; done)) | (have hE : (rpE n (fCl g) c an s) = 1 := by (simp_all [rpE, fCl, clOf]; omega)) | (have hE : (rpE n (fCl g) c an s) = 4 := by (simp_all [rpE, fCl, clOf]; done)) | (have hE : (rpE n (fCl g) c an s) = 4 := by (simp_all [rpE, fCl, clOf]; omega))
              refine ⟨2000, _, _, _, rpnt_6 .., (ob_cons ?_ (ob_cons rfl (ob_cons rfl (ob_cons rfl (ob_cons ?_ (ob_cons rfl (ob_cons ?_ (ob_cons ?_ (ob_cons ?_ (ob_cons ?_ (ob_cons ?_ (ob_cons ?_ (ob_cons ?_ (ob_cons ?_ (ob_cons h6 (ob_cons ?_ (ob_cons ?_ (ob_cons h5 (ob_cons h4 (ob_cons h3 (ob_cons ?_ (ob_cons ?_ (ob_cons h2 (ob_cons h1 ob_nil))))))))))))))))))))))))⟩
              ·
                first | rfl | (exfalso; omega) | (rw [hE]; done) | exact hE.symm | (rw [hE]; rfl) | (rw [hE]; exact hl) | (rw [hE]; exact Nat.le_refl _) | (rw [hE]; exact fun _ => rfl) | (rw [hE]; refine .inr (fun i hi => row_d ?_); simp [ptC, fCl, hE]; done) | (rw [hE]; refine .inr (fun i hi => row_d ?_); by_cases q : i = c.toNat <;> simp [ptC, fCl, upd, clOf, nth, AV.cells, avI_s, avI_i, ofVal, cellOf, q]; done)
              ·
                first | rfl | (exfalso; omega) | (rw [hE]; done) | exact hE.symm | (rw [hE]; rfl) | (rw [hE]; exact hl) | (rw [hE]; exact Nat.le_refl _) | (rw [hE]; exact fun _ => rfl) | (rw [hE]; refine .inr (fun i hi => row_d ?_); simp [ptC, fCl, hE]; done) | (rw [hE]; refine .inr (fun i hi => row_d ?_); by_cases q : i = c.toNat <;> simp [ptC, fCl, upd, clOf, nth, AV.cells, avI_s, avI_i, ofVal, cellOf, q]; done)
              ·
                first | exact Nat.le_refl _ | omega | (exfalso; omega) | (rw [hE]; done) | exact hE.symm | (rw [hE]; rfl) | (rw [hE]; exact hl) | (rw [hE]; exact Nat.le_refl _) | (rw [hE]; exact fun _ => rfl) | (rw [hE]; refine .inr (fun i hi => row_d ?_); simp [ptC, fCl, hE]; done) | (rw [hE]; refine .inr (fun i hi => row_d ?_); by_cases q : i = c.toNat <;> simp [ptC, fCl, upd, clOf, nth, AV.cells, avI_s, avI_i, ofVal, cellOf, q]; done)
              ·
                first | exact .inl ⟨rfl, rfl⟩ | (exfalso; omega) | (rw [hE]; done) | exact hE.symm | (rw [hE]; rfl) | (rw [hE]; exact hl) | (rw [hE]; exact Nat.le_refl _) | (rw [hE]; exact fun _ => rfl) | (rw [hE]; refine .inr (fun i hi => row_d ?_); simp [ptC, fCl, hE]; done) | (rw [hE]; refine .inr (fun i hi => row_d ?_); by_cases q : i = c.toNat <;> simp [ptC, fCl, upd, clOf, nth, AV.cells, avI_s, avI_i, ofVal, cellOf, q]; done)
              ·
                first | (apply Nat.ble_eq_true_of_le; omega) | (simp [Nat.blt_eq]; omega) | (exfalso; omega) | (rw [hE]; done) | exact hE.symm | (rw [hE]; rfl) | (rw [hE]; exact hl) | (rw [hE]; exact Nat.le_refl _) | (rw [hE]; exact fun _ => rfl) | (rw [hE]; refine .inr (fun i hi => row_d ?_); simp [ptC, fCl, hE]; done) | (rw [hE]; refine .inr (fun i hi => row_d ?_); by_cases q : i = c.toNat <;> simp [ptC, fCl, upd, clOf, nth, AV.cells, avI_s, avI_i, ofVal, cellOf, q]; done)
              ·
                first | (apply Nat.ble_eq_true_of_le; omega) | (simp [Nat.blt_eq]; omega) | (exfalso; omega) | (rw [hE]; done) | exact hE.symm | (rw [hE]; rfl) | (rw [hE]; exact hl) | (rw [hE]; exact Nat.le_refl _) | (rw [hE]; exact fun _ => rfl) | (rw [hE]; refine .inr (fun i hi => row_d ?_); simp [ptC, fCl, hE]; done) | (rw [hE]; refine .inr (fun i hi => row_d ?_); by_cases q : i = c.toNat <;> simp [ptC, fCl, upd, clOf, nth, AV.cells, avI_s, avI_i, ofVal, cellOf, q]; done)
              ·
                first | (apply Nat.ble_eq_true_of_le; omega) | (simp [Nat.blt_eq]; omega) | (exfalso; omega) | (rw [hE]; done) | exact hE.symm | (rw [hE]; rfl) | (rw [hE]; exact hl) | (rw [hE]; exact Nat.le_refl _) | (rw [hE]; exact fun _ => rfl) | (rw [hE]; refine .inr (fun i hi => row_d ?_); simp [ptC, fCl, hE]; done) | (rw [hE]; refine .inr (fun i hi => row_d ?_); by_cases q : i = c.toNat <;> simp [ptC, fCl, upd, clOf, nth, AV.cells, avI_s, avI_i, ofVal, cellOf, q]; done)
              ·
                first | (apply Nat.ble_eq_true_of_le; omega) | (simp [Nat.blt_eq]; omega) | (exfalso; omega) | (rw [hE]; done) | exact hE.symm | (rw [hE]; rfl) | (rw [hE]; exact hl) | (rw [hE]; exact Nat.le_refl _) | (rw [hE]; exact fun _ => rfl) | (rw [hE]; refine .inr (fun i hi => row_d ?_); simp [ptC, fCl, hE]; done) | (rw [hE]; refine .inr (fun i hi => row_d ?_); by_cases q : i = c.toNat <;> simp [ptC, fCl, upd, clOf, nth, AV.cells, avI_s, avI_i, ofVal, cellOf, q]; done)
              ·
                first | (apply Nat.ble_eq_true_of_le; omega) | (simp [Nat.blt_eq]; omega) | (exfalso; omega) | (rw [hE]; done) | exact hE.symm | (rw [hE]; rfl) | (rw [hE]; exact hl) | (rw [hE]; exact Nat.le_refl _) | (rw [hE]; exact fun _ => rfl) | (rw [hE]; refine .inr (fun i hi => row_d ?_); simp [ptC, fCl, hE]; done) | (rw [hE]; refine .inr (fun i hi => row_d ?_); by_cases q : i = c.toNat <;> simp [ptC, fCl, upd, clOf, nth, AV.cells, avI_s, avI_i, ofVal, cellOf, q]; done)
              ·
                first | (apply Nat.ble_eq_true_of_le; omega) | (simp [Nat.blt_eq]; omega) | (exfalso; omega) | (rw [hE]; done) | exact hE.symm | (rw [hE]; rfl) | (rw [hE]; exact hl) | (rw [hE]; exact Nat.le_refl _) | (rw [hE]; exact fun _ => rfl) | (rw [hE]; refine .inr (fun i hi => row_d ?_); simp [ptC, fCl, hE]; done) | (rw [hE]; refine .inr (fun i hi => row_d ?_); by_cases q : i = c.toNat <;> simp [ptC, fCl, upd, clOf, nth, AV.cells, avI_s, avI_i, ofVal, cellOf, q]; done)
              ·
                first | (apply Nat.ble_eq_true_of_le; omega) | (simp [Nat.blt_eq]; omega) | (exfalso; omega) | (rw [hE]; done) | exact hE.symm | (rw [hE]; rfl) | (rw [hE]; exact hl) | (rw [hE]; exact Nat.le_refl _) | (rw [hE]; exact fun _ => rfl) | (rw [hE]; refine .inr (fun i hi => row_d ?_); simp [ptC, fCl, hE]; done) | (rw [hE]; refine .inr (fun i hi => row_d ?_); by_cases q : i = c.toNat <;> simp [ptC, fCl, upd, clOf, nth, AV.cells, avI_s, avI_i, ofVal, cellOf, q]; done)
              ·
                first | (apply Nat.ble_eq_true_of_le; omega) | (simp [Nat.blt_eq]; omega) | (exfalso; omega) | (rw [hE]; done) | exact hE.symm | (rw [hE]; rfl) | (rw [hE]; exact hl) | (rw [hE]; exact Nat.le_refl _) | (rw [hE]; exact fun _ => rfl) | (rw [hE]; refine .inr (fun i hi => row_d ?_); simp [ptC, fCl, hE]; done) | (rw [hE]; refine .inr (fun i hi => row_d ?_); by_cases q : i = c.toNat <;> simp [ptC, fCl, upd, clOf, nth, AV.cells, avI_s, avI_i, ofVal, cellOf, q]; done)
              ·
                first | (apply Nat.ble_eq_true_of_le; omega) | (simp [Nat.blt_eq]; omega) | (exfalso; omega) | (rw [hE]; done) | exact hE.symm | (rw [hE]; rfl) | (rw [hE]; exact hl) | (rw [hE]; exact Nat.le_refl _) | (rw [hE]; exact fun _ => rfl) | (rw [hE]; refine .inr (fun i hi => row_d ?_); simp [ptC, fCl, hE]; done) | (rw [hE]; refine .inr (fun i hi => row_d ?_); by_cases q : i = c.toNat <;> simp [ptC, fCl, upd, clOf, nth, AV.cells, avI_s, avI_i, ofVal, cellOf, q]; done)
              ·
                first | (apply Nat.ble_eq_true_of_le; omega) | (simp [Nat.blt_eq]; omega) | (exfalso; omega) | (rw [hE]; done) | exact hE.symm | (rw [hE]; rfl) | (rw [hE]; exact hl) | (rw [hE]; exact Nat.le_refl _) | (rw [hE]; exact fun _ => rfl) | (rw [hE]; refine .inr (fun i hi => row_d ?_); simp [ptC, fCl, hE]; done) | (rw [hE]; refine .inr (fun i hi => row_d ?_); by_cases q : i = c.toNat <;> simp [ptC, fCl, upd, clOf, nth, AV.cells, avI_s, avI_i, ofVal, cellOf, q]; done)
        | false =>
          cases h7 : (decide (avInt (g (0 + c.toNat) 8) ≥ 0)) with
          | true =>
            have g7 := of_decide_eq_true h7
            try simp only [Int.ofNat_eq_natCast, ge_iff_le, gt_iff_lt, Int.not_lt, Int.not_le] at g7
            first | (have hE : (rpE n (fCl g) c an s) = 0 := by (simp_all [rpE, fCl, clOf]; done)) | (have hE : (rpE n (fCl g) c an s) = 0 := by (simp_all [rpE, fCl, clOf]; omega)) | (have hE : (rpE n (fCl g) c an s) = 1 := by (simp_all [rpE, fCl, clOf]; done)) | (have hE : (rpE n (fCl g) c an s) = 1 := by (simp_all [rpE, fCl, clOf]; omega)) | (have hE : (rpE n (fCl g) c an s) = 4 := by (simp_all [rpE, fCl, clOf]; done)) | (have hE : (rpE n (fCl g) c an s) = 4 := by (simp_all [rpE, fCl, clOf]; omega))
            refine ⟨2000, _, _, _, rpnt_7 .., (ob_cons ?_ (ob_cons rfl (ob_cons rfl (ob_cons rfl (ob_cons ?_ (ob_cons rfl (ob_cons ?_ (ob_cons ?_ (ob_cons h7 (ob_cons ?_ (ob_cons ?_ (ob_cons h4 (ob_cons h3 (ob_cons ?_ (ob_cons ?_ (ob_cons h2 (ob_cons h1 ob_nil)))))))))))))))))⟩
            ·
              first | rfl | (exfalso; omega) | (rw [hE]; done) | exact hE.symm | (rw [hE]; rfl) | (rw [hE]; exact hl) | (rw [hE]; exact Nat.le_refl _) | (rw [hE]; exact fun _ => rfl) | (rw [hE]; refine .inr (fun i hi => row_d ?_); simp [ptC, fCl, hE]; done) | (rw [hE]; refine .inr (fun i hi => row_d ?_); by_cases q : i = c.toNat <;> simp [ptC, fCl, upd, clOf, nth, AV.cells, avI_s, avI_i, ofVal, cellOf, q]; done)
            ·
              first | rfl | (exfalso; omega) | (rw [hE]; done) | exact hE.symm | (rw [hE]; rfl) | (rw [hE]; exact hl) | (rw [hE]; exact Nat.le_refl _) | (rw [hE]; exact fun _ => rfl) | (rw [hE]; refine .inr (fun i hi => row_d ?_); simp [ptC, fCl, hE]; done) | (rw [hE]; refine .inr (fun i hi => row_d ?_); by_cases q : i = c.toNat <;> simp [ptC, fCl, upd, clOf, nth, AV.cells, avI_s, avI_i, ofVal, cellOf, q]; done)
            ·
              first | exact Nat.le_refl _ | omega | (exfalso; omega) | (rw [hE]; done) | exact hE.symm | (rw [hE]; rfl) | (rw [hE]; exact hl) | (rw [hE]; exact Nat.le_refl _) | (rw [hE]; exact fun _ => rfl) | (rw [hE]; refine .inr (fun i hi => row_d ?_); simp [ptC, fCl, hE]; done) | (rw [hE]; refine .inr (fun i hi => row_d ?_); by_cases q : i = c.toNat <;> simp [ptC, fCl, upd, clOf, nth, AV.cells, avI_s, avI_i, ofVal, cellOf, q]; done)
            ·
              first | exact .inl ⟨rfl, rfl⟩ | (exfalso; omega) | (rw [hE]; done) | exact hE.symm | (rw [hE]; rfl) | (rw [hE]; exact hl) | (rw [hE]; exact Nat.le_refl _) | (rw [hE]; exact fun _ => rfl) | (rw [hE]; refine .inr (fun i hi => row_d ?_); simp [ptC, fCl, hE]; done) | (rw [hE]; refine .inr (fun i hi => row_d ?_); by_cases q : i = c.toNat <;> simp [ptC, fCl, upd, clOf, nth, AV.cells, avI_s, avI_i, ofVal, cellOf, q]; done)
            ·
              first | (apply Nat.ble_eq_true_of_le; omega) | (simp [Nat.blt_eq]; omega) | (exfalso; omega) | (rw [hE]; done) | exact hE.symm | (rw [hE]; rfl) | (rw [hE]; exact hl) | (rw [hE]; exact Nat.le_refl _) | (rw [hE]; exact fun _ => rfl) | (rw [hE]; refine .inr (fun i hi => row_d ?_); simp [ptC, fCl, hE]; done) | (rw [hE]; refine .inr (fun i hi => row_d ?_); by_cases q : i = c.toNat <;> simp [ptC, fCl, upd, clOf, nth, AV.cells, avI_s, avI_i, ofVal, cellOf, q]; done)
            ·
              first | (apply Nat.ble_eq_true_of_le; omega) | (simp [Nat.blt_eq]; omega) | (exfalso; omega) | (rw [hE]; done) | exact hE.symm | (rw [hE]; rfl) | (rw [hE]; exact hl) | (rw [hE]; exact Nat.le_refl _) | (rw [hE]; exact fun _ => rfl) | (rw [hE]; refine .inr (fun i hi => row_d ?_); simp [ptC, fCl, hE]; done) | (rw [hE]; refine .inr (fun i hi => row_d ?_); by_cases q : i = c.toNat <;> simp [ptC, fCl, upd, clOf, nth, AV.cells, avI_s, avI_i, ofVal, cellOf, q]; done)
            ·
              first | (apply Nat.ble_eq_true_of_le; omega) | (simp [Nat.blt_eq]; omega) | (exfalso; omega) | (rw [hE]; done) | exact hE.symm | (rw [hE]; rfl) | (rw [hE]; exact hl) | (rw [hE]; exact Nat.le_refl _) | (rw [hE]; exact fun _ => rfl) | (rw [hE]; refine .inr (fun i hi => row_d ?_); simp [ptC, fCl, hE]; done) | (rw [hE]; refine .inr (fun i hi => row_d ?_); by_cases q : i = c.toNat <;> simp [ptC, fCl, upd, clOf, nth, AV.cells, avI_s, avI_i, ofVal, cellOf, q]; done)
            ·
              first | (apply Nat.ble_eq_true_of_le; omega) | (simp [Nat.blt_eq]; omega) | (exfalso; omega) | (rw [hE]; done) | exact hE.symm | (rw [hE]; rfl) | (rw [hE]; exact hl) | (rw [hE]; exact Nat.le_refl _) | (rw [hE]; exact fun _ => rfl) | (rw [hE]; refine .inr (fun i hi => row_d ?_); simp [ptC, fCl, hE]; done) | (rw [hE]; refine .inr (fun i hi => row_d ?_); by_cases q : i = c.toNat <;> simp [ptC, fCl, upd, clOf, nth, AV.cells, avI_s, avI_i, ofVal, cellOf, q]; done)
          | false =>
            have g7 := of_decide_eq_false h7
            try simp only [Int.ofNat_eq_natCast, ge_iff_le, gt_iff_lt, Int.not_lt, Int.not_le] at g7
            first | (have hE : (rpE n (fCl g) c an s) = 0 := by (simp_all [rpE, fCl, clOf]; done)) | (have hE : (rpE n (fCl g) c an s) = 0 := by (simp_all [rpE, fCl, clOf]; omega)) | (have hE : (rpE n (fCl g) c an s) = 1 := by (simp_all [rpE, fCl, clOf]; done)) | (have hE : (rpE n (fCl g) c an s) = 1 := by (simp_all [rpE, fCl, clOf]; omega)) | (have hE : (rpE n (fCl g) c an s) = 4 := by (simp_all [rpE, fCl, clOf]; done)) | (have hE : (rpE n (fCl g) c an s) = 4 := by (simp_all [rpE, fCl, clOf]; omega))
            refine ⟨2000, _, _, _, rpnt_8 .., (ob_cons ?_ (ob_cons rfl (ob_cons rfl (ob_cons rfl (ob_cons ?_ (ob_cons rfl (ob_cons ?_ (ob_cons ?_ (ob_cons ?_ (ob_cons ?_ (ob_cons ?_ (ob_cons ?_ (ob_cons ?_ (ob_cons ?_ (ob_cons h7 (ob_cons ?_ (ob_cons ?_ (ob_cons h4 (ob_cons h3 (ob_cons ?_ (ob_cons ?_ (ob_cons h2 (ob_cons h1 ob_nil)))))))))))))))))))))))⟩
            ·
              first | rfl | (exfalso; omega) | (rw [hE]; done) | exact hE.symm | (rw [hE]; rfl) | (rw [hE]; exact hl) | (rw [hE]; exact Nat.le_refl _) | (rw [hE]; exact fun _ => rfl) | (rw [hE]; refine .inr (fun i hi => row_d ?_); simp [ptC, fCl, hE]; done) | (rw [hE]; refine .inr (fun i hi => row_d ?_); by_cases q : i = c.toNat <;> simp [ptC, fCl, upd, clOf, nth, AV.cells, avI_s, avI_i, ofVal, cellOf, q]; done)
            ·
              first | rfl | (exfalso; omega) | (rw [hE]; done) | exact hE.symm | (rw [hE]; rfl) | (rw [hE]; exact hl) | (rw [hE]; exact Nat.le_refl _) | (rw [hE]; exact fun _ => rfl) | (rw [hE]; refine .inr (fun i hi => row_d ?_); simp [ptC, fCl, hE]; done) | (rw [hE]; refine .inr (fun i hi => row_d ?_); by_cases q : i = c.toNat <;> simp [ptC, fCl, upd, clOf, nth, AV.cells, avI_s, avI_i, ofVal, cellOf, q]; done)
            ·
              first | exact Nat.le_refl _ | omega | (exfalso; omega) | (rw [hE]; done) | exact hE.symm | (rw [hE]; rfl) | (rw [hE]; exact hl) | (rw [hE]; exact Nat.le_refl _) | (rw [hE]; exact fun _ => rfl) | (rw [hE]; refine .inr (fun i hi => row_d ?_); simp [ptC, fCl, hE]; done) | (rw [hE]; refine .inr (fun i hi => row_d ?_); by_cases q : i = c.toNat <;> simp [ptC, fCl, upd, clOf, nth, AV.cells, avI_s, avI_i, ofVal, cellOf, q]; done)
            ·
              first | exact .inl ⟨rfl, rfl⟩ | (exfalso; omega) | (rw [hE]; done) | exact hE.symm | (rw [hE]; rfl) | (rw [hE]; exact hl) | (rw [hE]; exact Nat.le_refl _) | (rw [hE]; exact fun _ => rfl) | (rw [hE]; refine .inr (fun i hi => row_d ?_); simp [ptC, fCl, hE]; done) | (rw [hE]; refine .inr (fun i hi => row_d ?_); by_cases q : i = c.toNat <;> simp [ptC, fCl, upd, clOf, nth, AV.cells, avI_s, avI_i, ofVal, cellOf, q]; done)
            ·
              first | (apply Nat.ble_eq_true_of_le; omega) | (simp [Nat.blt_eq]; omega) | (exfalso; omega) | (rw [hE]; done) | exact hE.symm | (rw [hE]; rfl) | (rw [hE]; exact hl) | (rw [hE]; exact Nat.le_refl _) | (rw [hE]; exact fun _ => rfl) | (rw [hE]; refine .inr (fun i hi => row_d ?_); simp [ptC, fCl, hE]; done) | (rw [hE]; refine .inr (fun i hi => row_d ?_); by_cases q : i = c.toNat <;> simp [ptC, fCl, upd, clOf, nth, AV.cells, avI_s, avI_i, ofVal, cellOf, q]; done)
            ·
              first | (apply Nat.ble_eq_true_of_le; omega) | (simp [Nat.blt_eq]; omega) | (exfalso; omega) | (rw [hE]; done) | exact hE.symm | (rw [hE]; rfl) | (rw [hE]; exact hl) | (rw [hE]; exact Nat.le_refl _) | (rw [hE]; exact fun _ => rfl) | (rw [hE]; refine .inr (fun i hi => row_d ?_); simp [ptC, fCl, hE]; done) | (rw [hE]; refine .inr (fun i hi => row_d ?_); by_cases q : i = c.toNat <;> simp [ptC, fCl, upd, clOf, nth, AV.cells, avI_s, avI_i, ofVal, cellOf, q]; done)
            ·
              first | (apply Nat.ble_eq_true_of_le; omega) | (simp [Nat.blt_eq]; omega) | (exfalso; omega) | (rw [hE]; done) | exact hE.symm | (rw [hE]; rfl) | (rw [hE]; exact hl) | (rw [hE]; exact Nat.le_refl _) | (rw [hE]; exact fun _ => rfl) | (rw [hE]; refine .inr (fun i hi => row_d ?_); simp [ptC, fCl, hE]; done) | (rw [hE]; refine .inr (fun i hi => row_d ?_); by_cases q : i = c.toNat <;> simp [ptC, fCl, upd, clOf, nth, AV.cells, avI_s, avI_i, ofVal, cellOf, q]; done)
            ·
              first | (apply Nat.ble_eq_true_of_le; omega) | (simp [Nat.blt_eq]; omega) | (exfalso; omega) | (rw [hE]; done) | exact hE.symm | (rw [hE]; rfl) | (rw [hE]; exact hl) | (rw [hE]; exact Nat.le_refl _) | (rw [hE]; exact fun _ => rfl) | (rw [hE]; refine .inr (fun i hi => row_d ?_); simp [ptC, fCl, hE]; done) | (rw [hE]; refine .inr (fun i hi => row_d ?_); by_cases q : i = c.toNat <;> simp [ptC, fCl, upd, clOf, nth, AV.cells, avI_s, avI_i, ofVal, cellOf, q]; done)
            ·
              first | (apply Nat.ble_eq_true_of_le; omega) | (simp [Nat.blt_eq]; omega) | (exfalso; omega) | (rw [hE]; done) | exact hE.symm | (rw [hE]; rfl) | (rw [hE]; exact hl) | (rw [hE]; exact Nat.le_refl _) | (rw [hE]; exact fun _ => rfl) | (rw [hE]; refine .inr (fun i hi => row_d ?_); simp [ptC, fCl, hE]; done) | (rw [hE]; refine .inr (fun i hi => row_d ?_); by_cases q : i = c.toNat <;> simp [ptC, fCl, upd, clOf, nth, AV.cells, avI_s, avI_i, ofVal, cellOf, q]; done)
            ·
              first | (apply Nat.ble_eq_true_of_le; omega) | (simp [Nat.blt_eq]; omega) | (exfalso; omega) | (rw [hE]; done) | exact hE.symm | (rw [hE]; rfl) | (rw [hE]; exact hl) | (rw [hE]; exact Nat.le_refl _) | (rw [hE]; exact fun _ => rfl) | (rw [hE]; refine .inr (fun i hi => row_d ?_); simp [ptC, fCl, hE]; done) | (rw [hE]; refine .inr (fun i hi => row_d ?_); by_cases q : i = c.toNat <;> simp [ptC, fCl, upd, clOf, nth, AV.cells, avI_s, avI_i, ofVal, cellOf, q]; done)
            ·
              first | (apply Nat.ble_eq_true_of_le; omega) | (simp [Nat.blt_eq]; omega) | (exfalso; omega) | (rw [hE]; done) | exact hE.symm | (rw [hE]; rfl) | (rw [hE]; exact hl) | (rw [hE]; exact Nat.le_refl _) | (rw [hE]; exact fun _ => rfl) | (rw [hE]; refine .inr (fun i hi => row_d ?_); simp [ptC, fCl, hE]; done) | (rw [hE]; refine .inr (fun i hi => row_d ?_); by_cases q : i = c.toNat <;> simp [ptC, fCl, upd, clOf, nth, AV.cells, avI_s, avI_i, ofVal, cellOf, q]; done)
            ·
              first | (apply Nat.ble_eq_true_of_le; omega) | (simp [Nat.blt_eq]; omega) | (exfalso; omega) | (rw [hE]; done) | exact hE.symm | (rw [hE]; rfl) | (rw [hE]; exact hl) | (rw [hE]; exact Nat.le_refl _) | (rw [hE]; exact fun _ => rfl) | (rw [hE]; refine .inr (fun i hi => row_d ?_); simp [ptC, fCl, hE]; done) | (rw [hE]; refine .inr (fun i hi => row_d ?_); by_cases q : i = c.toNat <;> simp [ptC, fCl, upd, clOf, nth, AV.cells, avI_s, avI_i, ofVal, cellOf, q]; done)
            ·
              first | (apply Nat.ble_eq_true_of_le; omega) | (simp [Nat.blt_eq]; omega) | (exfalso; omega) | (rw [hE]; done) | exact hE.symm | (rw [hE]; rfl) | (rw [hE]; exact hl) | (rw [hE]; exact Nat.le_refl _) | (rw [hE]; exact fun _ => rfl) | (rw [hE]; refine .inr (fun i hi => row_d ?_); simp [ptC, fCl, hE]; done) | (rw [hE]; refine .inr (fun i hi => row_d ?_); by_cases q : i = c.toNat <;> simp [ptC, fCl, upd, clOf, nth, AV.cells, avI_s, avI_i, ofVal, cellOf, q]; done)
            ·
              first | (apply Nat.ble_eq_true_of_le; omega) | (simp [Nat.blt_eq]; omega) | (exfalso; omega) | (rw [hE]; done) | exact hE.symm | (rw [hE]; rfl) | (rw [hE]; exact hl) | (rw [hE]; exact Nat.le_refl _) | (rw [hE]; exact fun _ => rfl) | (rw [hE]; refine .inr (fun i hi => row_d ?_); simp [ptC, fCl, hE]; done) | (rw [hE]; refine .inr (fun i hi => row_d ?_); by_cases q : i = c.toNat <;> simp [ptC, fCl, upd, clOf, nth, AV.cells, avI_s, avI_i, ofVal, cellOf, q]; done)
noncomputable def rpntSpec : LSpec := fun la lh => match la, lh with
  | [.ptr z1 z2 z3, .sym .i64 c, .sym .i64 an, .sym .u64 va, .sym .i64 s], [(z4, .cells z5 [.ss z6 z7 z8 n none, .sym .i64 last]), (z9, .arr z10 z11 false l g)] =>
    match Nat.beq z1 1 && (Nat.beq z2 0 && (Nat.beq z3 0 && (Nat.beq z4 1 && (Nat.beq z5 2 && (Nat.beq z6 9 && (Nat.beq z7 2 && (Nat.beq z8 0 && (Nat.beq z9 2 && (Nat.beq z10 9 && (shBeq z11 dSh)))))))))) with
    | true => some (rpntR c an va s n l g last)
    | false => none
  | _, _ => none
theorem rpntSpec_ok (la : List AV) (lh : List (Nat × AO)) (R : LR) (h : rpntSpec la lh = some R) : LocOk Try.prog 28 la lh R := by
  unfold rpntSpec at h
  split at h
  · rename_i z1 z2 z3 c an va s z4 z5 z6 z7 z8 n last z9 z10 z11 l g
    split at h
    · rename_i hb
      simp only [Bool.and_eq_true] at hb
      obtain ⟨e1, e2, e3, e4, e5, e6, e7, e8, e9, e10, e11⟩ := hb
      have e1 := Nat.eq_of_beq_eq_true e1; subst e1
      have e2 := Nat.eq_of_beq_eq_true e2; subst e2
      have e3 := Nat.eq_of_beq_eq_true e3; subst e3
      have e4 := Nat.eq_of_beq_eq_true e4; subst e4
      have e5 := Nat.eq_of_beq_eq_true e5; subst e5
      have e6 := Nat.eq_of_beq_eq_true e6; subst e6
      have e7 := Nat.eq_of_beq_eq_true e7; subst e7
      have e8 := Nat.eq_of_beq_eq_true e8; subst e8
      have e9 := Nat.eq_of_beq_eq_true e9; subst e9
      have e10 := Nat.eq_of_beq_eq_true e10; subst e10
      have e11 := shBeq_eq e11; subst e11
      cases h
      exact rpnt_loc c an va s n l g last
    · cases h
  · cases h

theorem rend_1 (c s : Int) (n l : Nat) (g : Nat → Nat → AV) (last : Int) : callB EH2 2000 30 [AV.ptr 1 0 0, AV.sym IntKind.i64 c, AV.sym IntKind.i64 s] (rendH c s n l g last) (rendR c s n l g last) [] [Hint.b true] =
 some ([1 = reE n (fCl g) last c s,
 (0 : Nat) = 0,
 n = n,
 (none : Option Nat) = none,
 last = onOk (reE n (fCl g) last c s) s last,
 false = false,
 n ≤ l,
 dF (rnC (reE n (fCl g) last c s) (fCl g) c s) = g ∧ plainSh dSh = true ∨ ∀ (i : Nat), i < n → rowOb dSh 0 (g i) (dF (rnC (reE n (fCl g) last c s) (fCl g) c s) i),
 decide (c < 0) = true]) := by kernel_rfl
theorem rend_2 (c s : Int) (n l : Nat) (g : Nat → Nat → AV) (last : Int) : callB EH2 2000 30 [AV.ptr 1 0 0, AV.sym IntKind.i64 c, AV.sym IntKind.i64 s] (rendH c s n l g last) (rendR c s n l g last) [] [Hint.b false, Hint.b true] =
 some ([1 = reE n (fCl g) last c s,
 (0 : Nat) = 0,
 n = n,
 (none : Option Nat) = none,
 last = onOk (reE n (fCl g) last c s) s last,
 false = false,
 n ≤ l,
 dF (rnC (reE n (fCl g) last c s) (fCl g) c s) = g ∧ plainSh dSh = true ∨ ∀ (i : Nat), i < n → rowOb dSh 0 (g i) (dF (rnC (reE n (fCl g) last c s) (fCl g) c s) i),
 decide (c ≥ Int.ofNat n) = true,
 decide (c < 0) = false]) := by kernel_rfl
theorem rend_3 (c s : Int) (n l : Nat) (g : Nat → Nat → AV) (last : Int) : callB EH2 2000 30 [AV.ptr 1 0 0, AV.sym IntKind.i64 c, AV.sym IntKind.i64 s] (rendH c s n l g last) (rendR c s n l g last) [] [Hint.b false, Hint.b false, Hint.b true] =
 some ([1 = reE n (fCl g) last c s,
 (0 : Nat) = 0,
 n = n,
 (none : Option Nat) = none,
 last = onOk (reE n (fCl g) last c s) s last,
 false = false,
 n ≤ l,
 dF (rnC (reE n (fCl g) last c s) (fCl g) c s) = g ∧ plainSh dSh = true ∨ ∀ (i : Nat), i < n → rowOb dSh 0 (g i) (dF (rnC (reE n (fCl g) last c s) (fCl g) c s) i),
 decide (s < last) = true,
 decide (c ≥ Int.ofNat n) = false,
 decide (c < 0) = false]) := by kernel_rfl
theorem rend_4 (c s : Int) (n l : Nat) (g : Nat → Nat → AV) (last : Int) : callB EH2 2000 30 [AV.ptr 1 0 0, AV.sym IntKind.i64 c, AV.sym IntKind.i64 s] (rendH c s n l g last) (rendR c s n l g last) [] [Hint.b false, Hint.b false, Hint.b false, Hint.b true] =
 some ([4 = reE n (fCl g) last c s,
 (0 : Nat) = 0,
 n = n,
 (none : Option Nat) = none,
 last = onOk (reE n (fCl g) last c s) s last,
 false = false,
 n ≤ l,
 dF (rnC (reE n (fCl g) last c s) (fCl g) c s) = g ∧ plainSh dSh = true ∨ ∀ (i : Nat), i < n → rowOb dSh 0 (g i) (dF (rnC (reE n (fCl g) last c s) (fCl g) c s) i),
 decide (avInt (g (0 + c.toNat) 8) ≥ 0) = true,
 (0 + c.toNat).blt l = true,
 (c.toNat.blt n && decide (0 ≤ c)) = true,
 decide (s < last) = false,
 decide (c ≥ Int.ofNat n) = false,
 decide (c < 0) = false]) := by kernel_rfl
theorem rend_5 (c s : Int) (n l : Nat) (g : Nat → Nat → AV) (last : Int) : callB EH2 2000 30 [AV.ptr 1 0 0, AV.sym IntKind.i64 c, AV.sym IntKind.i64 s] (rendH c s n l g last) (rendR c s n l g last) [] [Hint.b false, Hint.b false, Hint.b false, Hint.b false, Hint.b true] =
 some ([0 = reE n (fCl g) last c s,
 (0 : Nat) = 0,
 n = n,
 (none : Option Nat) = none,
 s = onOk (reE n (fCl g) last c s) s last,
 false = false,
 n ≤ l,
 dF (rnC (reE n (fCl g) last c s) (fCl g) c s) = upd (upd g (0 + c.toNat) 8 (AV.sym IntKind.i64 s).cells) (0 + c.toNat) 4 (ofVal (Value.int IntKind.i64 3)).cells ∧ plainSh dSh = true ∨ ∀ (i : Nat), i < n → rowOb dSh 0 (upd (upd g (0 + c.toNat) 8 (AV.sym IntKind.i64 s).cells) (0 + c.toNat) 4 (ofVal (Value.int IntKind.i64 3)).cells i) (dF (rnC (reE n (fCl g) last c s) (fCl g) c s) i),
 (0 + c.toNat).blt l = true,
 (c.toNat.blt n && decide (0 ≤ c)) = true,
 decide (avInt (upd g (0 + c.toNat) 8 (AV.sym IntKind.i64 s).cells (0 + c.toNat) 7) < 0) = true,
 (0 + c.toNat).blt l = true,
 (c.toNat.blt n && decide (0 ≤ c)) = true,
 (0 + c.toNat).blt l = true,
 (c.toNat.blt n && decide (0 ≤ c)) = true,
 decide (avInt (g (0 + c.toNat) 8) ≥ 0) = false,
 (0 + c.toNat).blt l = true,
 (c.toNat.blt n && decide (0 ≤ c)) = true,
 decide (s < last) = false,
 decide (c ≥ Int.ofNat n) = false,
 decide (c < 0) = false]) := by kernel_rfl
theorem rend_6 (c s : Int) (n l : Nat) (g : Nat → Nat → AV) (last : Int) : callB EH2 2000 30 [AV.ptr 1 0 0, AV.sym IntKind.i64 c, AV.sym IntKind.i64 s] (rendH c s n l g last) (rendR c s n l g last) [] [Hint.b false, Hint.b false, Hint.b false, Hint.b false, Hint.b false] =
 some ([0 = reE n (fCl g) last c s,
 (0 : Nat) = 0,
 n = n,
 (none : Option Nat) = none,
 s = onOk (reE n (fCl g) last c s) s last,
 false = false,
 n ≤ l,
 dF (rnC (reE n (fCl g) last c s) (fCl g) c s) = upd g (0 + c.toNat) 8 (AV.sym IntKind.i64 s).cells ∧ plainSh dSh = true ∨ ∀ (i : Nat), i < n → rowOb dSh 0 (upd g (0 + c.toNat) 8 (AV.sym IntKind.i64 s).cells i) (dF (rnC (reE n (fCl g) last c s) (fCl g) c s) i),
 decide (avInt (upd g (0 + c.toNat) 8 (AV.sym IntKind.i64 s).cells (0 + c.toNat) 7) < 0) = false,
 (0 + c.toNat).blt l = true,
 (c.toNat.blt n && decide (0 ≤ c)) = true,
 (0 + c.toNat).blt l = true,
 (c.toNat.blt n && decide (0 ≤ c)) = true,
 decide (avInt (g (0 + c.toNat) 8) ≥ 0) = false,
 (0 + c.toNat).blt l = true,
 (c.toNat.blt n && decide (0 ≤ c)) = true,
 decide (s < last) = false,
 decide (c ≥ Int.ofNat n) = false,
 decide (c < 0) = false]) := by kernel_rfl
theorem rend_loc (c s : Int) (n l : Nat) (g : Nat → Nat → AV) (last : Int) : LocOk Try.prog 30 [.ptr 1 0 0, .sym .i64 c, .sym .i64 s] (rendH c s n l g last) (rendR c s n l g last) := by
  refine loc_of_call EH2_ok (fun hp => ?_)
  have hl : n ≤ l := hp _ (List.mem_cons_self ..)
  have hm : n ≤ 100000 := hp _ (List.mem_cons_of_mem _ (List.mem_cons_self ..))
  clear hp
  cases h1 : (decide (c < 0)) with
  | true =>
    have g1 := of_decide_eq_true h1
    try simp only [Int.ofNat_eq_natCast, ge_iff_le, gt_iff_lt, Int.not_lt, Int.not_le] at g1
    first | (have hE : (reE n (fCl g) last c s) = 0 := by (simp_all [reE, fCl, clOf]; done)) | (have hE : (reE n (fCl g) last c s) = 0 := by (simp_all [reE, fCl, clOf]; omega)) | (have hE : (reE n (fCl g) last c s) = 1 := by (simp_all [reE, fCl, clOf]; done)) | (have hE : (reE n (fCl g) last c s) = 1 := by (simp_all [reE, fCl, clOf]; omega)) | (have hE : (reE n (fCl g) last c s) = 4 := by (simp_all [reE, fCl, clOf]; done)) | (have hE : (reE n (fCl g) last c s) = 4 := by (simp_all [reE, fCl, clOf]; omega))
    refine ⟨2000, _, _, _, rend_1 .., (ob_cons ?_ (ob_cons rfl (ob_cons rfl (ob_cons rfl (ob_cons ?_ (ob_cons rfl (ob_cons ?_ (ob_cons ?_ (ob_cons h1 ob_nil)))))))))⟩
    ·
      first | rfl | (exfalso; omega) | (rw [hE]; done) | exact hE.symm | (rw [hE]; rfl) | (rw [hE]; exact hl) | (rw [hE]; exact Nat.le_refl _) | (rw [hE]; exact fun _ => rfl) | (rw [hE]; refine .inr (fun i hi => row_d ?_); simp [rnC, fCl, hE]; done) | (rw [hE]; refine .inr (fun i hi => row_d ?_); by_cases q : i = c.toNat <;> simp_all [rnC, fCl, upd, clOf, nth, AV.cells, avI_s, avI_i, ofVal, cellOf] <;> (intro hz; omega))
    ·
      first | rfl | (exfalso; omega) | (rw [hE]; done) | exact hE.symm | (rw [hE]; rfl) | (rw [hE]; exact hl) | (rw [hE]; exact Nat.le_refl _) | (rw [hE]; exact fun _ => rfl) | (rw [hE]; refine .inr (fun i hi => row_d ?_); simp [rnC, fCl, hE]; done) | (rw [hE]; refine .inr (fun i hi => row_d ?_); by_cases q : i = c.toNat <;> simp_all [rnC, fCl, upd, clOf, nth, AV.cells, avI_s, avI_i, ofVal, cellOf] <;> (intro hz; omega))
    ·
      first | exact Nat.le_refl _ | omega | (exfalso; omega) | (rw [hE]; done) | exact hE.symm | (rw [hE]; rfl) | (rw [hE]; exact hl) | (rw [hE]; exact Nat.le_refl _) | (rw [hE]; exact fun _ => rfl) | (rw [hE]; refine .inr (fun i hi => row_d ?_); simp [rnC, fCl, hE]; done) | (rw [hE]; refine .inr (fun i hi => row_d ?_); by_cases q : i = c.toNat <;> simp_all [rnC, fCl, upd, clOf, nth, AV.cells, avI_s, avI_i, ofVal, cellOf] <;> (intro hz; omega))
    ·
      first | exact .inl ⟨rfl, rfl⟩ | (exfalso; omega) | (rw [hE]; done) | exact hE.symm | (rw [hE]; rfl) | (rw [hE]; exact hl) | (rw [hE]; exact Nat.le_refl _) | (rw [hE]; exact fun _ => rfl) | (rw [hE]; refine .inr (fun i hi => row_d ?_); simp [rnC, fCl, hE]; done) | (rw [hE]; refine .inr (fun i hi => row_d ?_); by_cases q : i = c.toNat <;> simp_all [rnC, fCl, upd, clOf, nth, AV.cells, avI_s, avI_i, ofVal, cellOf] <;> (intro hz; omega))
  | false =>
    have g1 := of_decide_eq_false h1
    try simp only [Int.ofNat_eq_natCast, ge_iff_le, gt_iff_lt, Int.not_lt, Int.not_le] at g1
    cases h2 : (decide (c ≥ Int.ofNat n)) with
    | true =>
      have g2 := of_decide_eq_true h2
      try simp only [Int.ofNat_eq_natCast, ge_iff_le, gt_iff_lt, Int.not_lt, Int.not_le] at g2
      first | (have hE : (reE n (fCl g) last c s) = 0 := by (simp_all [reE, fCl, clOf]; done)) | (have hE : (reE n (fCl g) last c s) = 0 := by (simp_all [reE, fCl, clOf]; omega)) | (have hE : (reE n (fCl g) last c s) = 1 := by (simp_all [reE, fCl, clOf]; done)) | (have hE : (reE n (fCl g) last c s) = 1 := by (simp_all [reE, fCl, clOf]; omega)) | (have hE : (reE n (fCl g) last c s) = 4 := by (simp_all [reE, fCl, clOf]; done)) | (have hE : (reE n (fCl g) last c s) = 4 := by (simp_all [reE, fCl, clOf]; omega))
      refine ⟨2000, _, _, _, rend_2 .., (ob_cons ?_ (ob_cons rfl (ob_cons rfl (ob_cons rfl (ob_cons ?_ (ob_cons rfl (ob_cons ?_ (ob_cons ?_ (ob_cons h2 (ob_cons h1 ob_nil))))))))))⟩
      ·
        first | rfl | (exfalso; omega) | (rw [hE]; done) | exact hE.symm | (rw [hE]; rfl) | (rw [hE]; exact hl) | (rw [hE]; exact Nat.le_refl _) | (rw [hE]; exact fun _ => rfl) | (rw [hE]; refine .inr (fun i hi => row_d ?_); simp [rnC, fCl, hE]; done) | (rw [hE]; refine .inr (fun i hi => row_d ?_); by_cases q : i = c.toNat <;> simp_all [rnC, fCl, upd, clOf, nth, AV.cells, avI_s, avI_i, ofVal, cellOf] <;> (intro hz; omega))
      ·
        first | rfl | (exfalso; omega) | (rw [hE]; done) | exact hE.symm | (rw [hE]; rfl) | (rw [hE]; exact hl) | (rw [hE]; exact Nat.le_refl _) | (rw [hE]; exact fun _ => rfl) | (rw [hE]; refine .inr (fun i hi => row_d ?_); simp [rnC, fCl, hE]; done) | (rw [hE]; refine .inr (fun i hi => row_d ?_); by_cases q : i = c.toNat <;> simp_all [rnC, fCl, upd, clOf, nth, AV.cells, avI_s, avI_i, ofVal, cellOf] <;> (intro hz; omega))
      ·
        first | exact Nat.le_refl _ | omega | (exfalso; omega) | (rw [hE]; done) | exact hE.symm | (rw [hE]; rfl) | (rw [hE]; exact hl) | (rw [hE]; exact Nat.le_refl _) | (rw [hE]; exact fun _ => rfl) | (rw [hE]; refine .inr (fun i hi => row_d ?_); simp [rnC, fCl, hE]; done) | (rw [hE]; refine .inr (fun i hi => row_d ?_); by_cases q : i = c.toNat <;> simp_all [rnC, fCl, upd, clOf, nth, AV.cells, avI_s, avI_i, ofVal, cellOf] <;> (intro hz; omega))
      ·
        first | exact .inl ⟨rfl, rfl⟩ | (exfalso; omega) | (rw [hE]; done) | exact hE.symm | (rw [hE]; rfl) | (rw [hE]; exact hl) | (rw [hE]; exact Nat.le_refl _) | (rw [hE]; exact fun _ => rfl) | (rw [hE]; refine .inr (fun i hi => row_d ?_); simp [rnC, fCl, hE]; done) | (rw [hE]; refine .inr (fun i hi => row_d ?_); by_cases q : i = c.toNat <;> simp_all [rnC, fCl, upd, clOf, nth, AV.cells, avI_s, avI_i, ofVal, cellOf] <;> (intro hz; omega))
    | false =>
      have g2 := of_decide_eq_false h2
      try simp only [Int.ofNat_eq_natCast, ge_iff_le, gt_iff_lt, Int.not_lt, Int.not_le] at g2
      cases h3 : (decide (s < last)) with
      | true =>
        have g3 := of_decide_eq_true h3
        try simp only [Int.ofNat_eq_natCast, ge_iff_le, gt_iff_lt, Int.not_lt, Int.not_le] at g3
        first | (have hE : (reE n (fCl g) last c s) = 0 := by (simp_all [reE, fCl, clOf]; done)) | (have hE : (reE n (fCl g) last c s) = 0 := by (simp_all [reE, fCl, clOf]; omega)) | (have hE : (reE n (fCl g) last c s) = 1 := by (simp_all [reE, fCl, clOf]; done)) | (have hE : (reE n (fCl g) last c s) = 1 := by (simp_all [reE, fCl, clOf]; omega)) | (have hE : (reE n (fCl g) last c s) = 4 := by (simp_all [reE, fCl, clOf]; done)) | (have hE : (reE n (fCl g) last c s) = 4 := by (simp_all [reE, fCl, clOf]; omega))
        refine ⟨2000, _, _, _, rend_3 .., (ob_cons ?_ (ob_cons rfl (ob_cons rfl (ob_cons rfl (ob_cons ?_ (ob_cons rfl (ob_cons ?_ (ob_cons ?_ (ob_cons h3 (ob_cons h2 (ob_cons h1 ob_nil)))))))))))⟩
        ·
          first | rfl | (exfalso; omega) | (rw [hE]; done) | exact hE.symm | (rw [hE]; rfl) | (rw [hE]; exact hl) | (rw [hE]; exact Nat.le_refl _) | (rw [hE]; exact fun _ => rfl) | (rw [hE]; refine .inr (fun i hi => row_d ?_); simp [rnC, fCl, hE]; done) | (rw [hE]; refine .inr (fun i hi => row_d ?_); by_cases q : i = c.toNat <;> simp_all [rnC, fCl, upd, clOf, nth, AV.cells, avI_s, avI_i, ofVal, cellOf] <;> (intro hz; omega))
        ·
          first | rfl | (exfalso; omega) | (rw [hE]; done) | exact hE.symm | (rw [hE]; rfl) | (rw [hE]; exact hl) | (rw [hE]; exact Nat.le_refl _) | (rw [hE]; exact fun _ => rfl) | (rw [hE]; refine .inr (fun i hi => row_d ?_); simp [rnC, fCl, hE]; done) | (rw [hE]; refine .inr (fun i hi => row_d ?_); by_cases q : i = c.toNat <;> simp_all [rnC, fCl, upd, clOf, nth, AV.cells, avI_s, avI_i, ofVal, cellOf] <;> (intro hz; omega))
        ·
          first | exact Nat.le_refl _ | omega | (exfalso; omega) | (rw [hE]; done) | exact hE.symm | (rw [hE]; rfl) | (rw [hE]; exact hl) | (rw [hE]; exact Nat.le_refl _) | (rw [hE]; exact fun _ => rfl) | (rw [hE]; refine .inr (fun i hi => row_d ?_); simp [rnC, fCl, hE]; done) | (rw [hE]; refine .inr (fun i hi => row_d ?_); by_cases q : i = c.toNat <;> simp_all [rnC, fCl, upd, clOf, nth, AV.cells, avI_s, avI_i, ofVal, cellOf] <;> (intro hz; omega))
        ·
          first | exact .inl ⟨rfl, rfl⟩ | (exfalso; omega) | (rw [hE]; done) | exact hE.symm | (rw [hE]; rfl) | (rw [hE]; exact hl) | (rw [hE]; exact Nat.le_refl _) | (rw [hE]; exact fun _ => rfl) | (rw [hE]; refine .inr (fun i hi => row_d ?_); simp [rnC, fCl, hE]; done) | (rw [hE]; refine .inr (fun i hi => row_d ?_); by_cases q : i = c.toNat <;> simp_all [rnC, fCl, upd, clOf, nth, AV.cells, avI_s, avI_i, ofVal, cellOf] <;> (intro hz; omega))
      | false =>
        have g3 := of_decide_eq_false h3
        try simp only [Int.ofNat_eq_natCast, ge_iff_le, gt_iff_lt, Int.not_lt, Int.not_le] at g3
        cases h4 : (decide (avInt (g (0 + c.toNat) 8) ≥ 0)) with
        | true =>
          have g4 := of_decide_eq_true h4
          try simp only [Int.ofNat_eq_natCast, ge_iff_le, gt_iff_lt, Int.not_lt, Int.not_le] at g4
          first | (have hE : (reE n (fCl g) last c s) = 0 := by (simp_all [reE, fCl, clOf]; done)) | (have hE : (reE n (fCl g) last c s) = 0 := by (simp_all [reE, fCl, clOf]; omega)) | (have hE : (reE n (fCl g) last c s) = 1 := by (simp_all [reE, fCl, clOf]; done)) | (have hE : (reE n (fCl g) last c s) = 1 := by (simp_all [reE, fCl, clOf]; omega)) | (have hE : (reE n (fCl g) last c s) = 4 := by (simp_all [reE, fCl, clOf]; done)) | (have hE : (reE n (fCl g) last c s) = 4 := by (simp_all [reE, fCl, clOf]; omega))
          refine ⟨2000, _, _, _, rend_4 .., (ob_cons ?_ (ob_cons rfl (ob_cons rfl (ob_cons rfl (ob_cons ?_ (ob_cons rfl (ob_cons ?_ (ob_cons ?_ (ob_cons h4 (ob_cons ?_ (ob_cons ?_ (ob_cons h3 (ob_cons h2 (ob_cons h1 ob_nil))))))))))))))⟩
          ·
            first | rfl | (exfalso; omega) | (rw [hE]; done) | exact hE.symm | (rw [hE]; rfl) | (rw [hE]; exact hl) | (rw [hE]; exact Nat.le_refl _) | (rw [hE]; exact fun _ => rfl) | (rw [hE]; refine .inr (fun i hi => row_d ?_); simp [rnC, fCl, hE]; done) | (rw [hE]; refine .inr (fun i hi => row_d ?_); by_cases q : i = c.toNat <;> simp_all [rnC, fCl, upd, clOf, nth, AV.cells, avI_s, avI_i, ofVal, cellOf] <;> (intro hz; omega))
          ·
            first | rfl | (exfalso; omega) | (rw [hE]; done) | exact hE.symm | (rw [hE]; rfl) | (rw [hE]; exact hl) | (rw [hE]; exact Nat.le_refl _) | (rw [hE]; exact fun _ => rfl) | (rw [hE]; refine .inr (fun i hi => row_d ?_); simp [rnC, fCl, hE]; done) | (rw [hE]; refine .inr (fun i hi => row_d ?_); by_cases q : i = c.toNat <;> simp_all [rnC, fCl, upd, clOf, nth, AV.cells, avI_s, avI_i, ofVal, cellOf] <;> (intro hz; omega))
          ·
            first | exact Nat.le_refl _ | omega | (exfalso; omega) | (rw [hE]; done) | exact hE.symm | (rw [hE]; rfl) | (rw [hE]; exact hl) | (rw [hE]; exact Nat.le_refl _) | (rw [hE]; exact fun _ => rfl) | (rw [hE]; refine .inr (fun i hi => row_d ?_); simp [rnC, fCl, hE]; done) | (rw [hE]; refine .inr (fun i hi => row_d ?_); by_cases q : i = c.toNat <;> simp_all [rnC, fCl, upd, clOf, nth, AV.cells, avI_s, avI_i, ofVal, cellOf] <;> (intro hz; omega))
          ·
            first | exact .inl ⟨rfl, rfl⟩ | (exfalso; omega) | (rw [hE]; done) | exact hE.symm | (rw [hE]; rfl) | (rw [hE]; exact hl) | (rw [hE]; exact Nat.le_refl _) | (rw [hE]; exact fun _ => rfl) | (rw [hE]; refine .inr (fun i hi => row_d ?_); simp [rnC, fCl, hE]; done) | (rw [hE]; refine .inr (fun i hi => row_d ?_); by_cases q : i = c.toNat <;> simp_all [rnC, fCl, upd, clOf, nth, AV.cells, avI_s, avI_i, ofVal, cellOf] <;> (intro hz; omega))
          ·
            first | (apply Nat.ble_eq_true_of_le; omega) | (simp [Nat.blt_eq]; omega) | (exfalso; omega) | (rw [hE]; done) | exact hE.symm | (rw [hE]; rfl) | (rw [hE]; exact hl) | (rw [hE]; exact Nat.le_refl _) | (rw [hE]; exact fun _ => rfl) | (rw [hE]; refine .inr (fun i hi => row_d ?_); simp [rnC, fCl, hE]; done) | (rw [hE]; refine .inr (fun i hi => row_d ?_); by_cases q : i = c.toNat <;> simp_all [rnC, fCl, upd, clOf, nth, AV.cells, avI_s, avI_i, ofVal, cellOf] <;> (intro hz; omega))
          ·
            first | (apply Nat.ble_eq_true_of_le; omega) | (simp [Nat.blt_eq]; omega) | (exfalso; omega) | (rw [hE]; done) | exact hE.symm | (rw [hE]; rfl) | (rw [hE]; exact hl) | (rw [hE]; exact Nat.le_refl _) | (rw [hE]; exact fun _ => rfl) | (rw [hE]; refine .inr (fun i hi => row_d ?_); simp [rnC, fCl, hE]; done) | (rw [hE]; refine .inr (fun i hi => row_d ?_); by_cases q : i = c.toNat <;> simp_all [rnC, fCl, upd, clOf, nth, AV.cells, avI_s, avI_i, ofVal, cellOf] <;> (intro hz; omega))
        | false =>
          have g4 := of_decide_eq_false h4
          try simp only [Int.ofNat_eq_natCast, ge_iff_le, gt_iff_lt, Int.not_lt, Int.not_le] at g4
          cases h5 : (decide (avInt (upd g (0 + c.toNat) 8 (AV.sym IntKind.i64 s).cells (0 + c.toNat) 7) < 0)) with
          | true =>
            have g5 := of_decide_eq_true h5
            try simp only [Int.ofNat_eq_natCast, ge_iff_le, gt_iff_lt, Int.not_lt, Int.not_le] at g5
            first | (have hE : (reE n (fCl g) last c s) = 0 := by (simp_all [reE, fCl, clOf]; done)) | (have hE : (reE n (fCl g) last c s) = 0 := by (simp_all [reE, fCl, clOf]; omega)) | (have hE : (reE n (fCl g) last c s) = 1 := by (simp_all [reE, fCl, clOf]; done)) | (have hE : (reE n (fCl g) last c s) = 1 := by (simp_all [reE, fCl, clOf]; omega)) | (have hE : (reE n (fCl g) last c s) = 4 := by (simp_all [reE, fCl, clOf]; done)) | (have hE : (reE n (fCl g) last c s) = 4 := by (simp_all [reE, fCl, clOf]; omega))
            refine ⟨2000, _, _, _, rend_5 .., (ob_cons ?_ (ob_cons rfl (ob_cons rfl (ob_cons rfl (ob_cons ?_ (ob_cons rfl (ob_cons ?_ (ob_cons ?_ (ob_cons ?_ (ob_cons ?_ (ob_cons h5 (ob_cons ?_ (ob_cons ?_ (ob_cons ?_ (ob_cons ?_ (ob_cons h4 (ob_cons ?_ (ob_cons ?_ (ob_cons h3 (ob_cons h2 (ob_cons h1 ob_nil)))))))))))))))))))))⟩
            ·
              first | rfl | (exfalso; omega) | (rw [hE]; done) | exact hE.symm | (rw [hE]; rfl) | (rw [hE]; exact hl) | (rw [hE]; exact Nat.le_refl _) | (rw [hE]; exact fun _ => rfl) | (rw [hE]; refine .inr (fun i hi => row_d ?_); simp [rnC, fCl, hE]; done) | (rw [hE]; refine .inr (fun i hi => row_d ?_); by_cases q : i = c.toNat <;> simp_all [rnC, fCl, upd, clOf, nth, AV.cells, avI_s, avI_i, ofVal, cellOf] <;> (intro hz; omega))
            ·
              first | rfl | (exfalso; omega) | (rw [hE]; done) | exact hE.symm | (rw [hE]; rfl) | (rw [hE]; exact hl) | (rw [hE]; exact Nat.le_refl _) | (rw [hE]; exact fun _ => rfl) | (rw [hE]; refine .inr (fun i hi => row_d ?_); simp [rnC, fCl, hE]; done) | (rw [hE]; refine .inr (fun i hi => row_d ?_); by_cases q : i = c.toNat <;> simp_all [rnC, fCl, upd, clOf, nth, AV.cells, avI_s, avI_i, ofVal, cellOf] <;> (intro hz; omega))
            ·
              first | exact Nat.le_refl _ | omega | (exfalso; omega) | (rw [hE]; done) | exact hE.symm | (rw [hE]; rfl) | (rw [hE]; exact hl) | (rw [hE]; exact Nat.le_refl _) | (rw [hE]; exact fun _ => rfl) | (rw [hE]; refine .inr (fun i hi => row_d ?_); simp [rnC, fCl, hE]; done) | (rw [hE]; refine .inr (fun i hi => row_d ?_); by_cases q : i = c.toNat <;> simp_all [rnC, fCl, upd, clOf, nth, AV.cells, avI_s, avI_i, ofVal, cellOf] <;> (intro hz; omega))
            ·
              first | exact .inl ⟨rfl, rfl⟩ | (exfalso; omega) | (rw [hE]; done) | exact hE.symm | (rw [hE]; rfl) | (rw [hE]; exact hl) | (rw [hE]; exact Nat.le_refl _) | (rw [hE]; exact fun _ => rfl) | (rw [hE]; refine .inr (fun i hi => row_d ?_); simp [rnC, fCl, hE]; done) | (rw [hE]; refine .inr (fun i hi => row_d ?_); by_cases q : i = c.toNat <;> simp_all [rnC, fCl, upd, clOf, nth, AV.cells, avI_s, avI_i, ofVal, cellOf] <;> (intro hz; omega))
            ·
              first | (apply Nat.ble_eq_true_of_le; omega) | (simp [Nat.blt_eq]; omega) | (exfalso; omega) | (rw [hE]; done) | exact hE.symm | (rw [hE]; rfl) | (rw [hE]; exact hl) | (rw [hE]; exact Nat.le_refl _) | (rw [hE]; exact fun _ => rfl) | (rw [hE]; refine .inr (fun i hi => row_d ?_); simp [rnC, fCl, hE]; done) | (rw [hE]; refine .inr (fun i hi => row_d ?_); by_cases q : i = c.toNat <;> simp_all [rnC, fCl, upd, clOf, nth, AV.cells, avI_s, avI_i, ofVal, cellOf] <;> (intro hz; omega))
            ·
              first | (apply Nat.ble_eq_true_of_le; omega) | (simp [Nat.blt_eq]; omega) | (exfalso; omega) | (rw [hE]; done) | exact hE.symm | (rw [hE]; rfl) | (rw [hE]; exact hl) | (rw [hE]; exact Nat.le_refl _) | (rw [hE]; exact fun _ => rfl) | (rw [hE]; refine .inr (fun i hi => row_d ?_); simp [rnC, fCl, hE]; done) | (rw [hE]; refine .inr (fun i hi => row_d ?_); by_cases q : i = c.toNat <;> simp_all [rnC, fCl, upd, clOf, nth, AV.cells, avI_s, avI_i, ofVal, cellOf] <;> (intro hz; omega))
            ·
              first | (apply Nat.ble_eq_true_of_le; omega) | (simp [Nat.blt_eq]; omega) | (exfalso; omega) | (rw [hE]; done) | exact hE.symm | (rw [hE]; rfl) | (rw [hE]; exact hl) | (rw [hE]; exact Nat.le_refl _) | (rw [hE]; exact fun _ => rfl) | (rw [hE]; refine .inr (fun i hi => row_d ?_); simp [rnC, fCl, hE]; done) | (rw [hE]; refine .inr (fun i hi => row_d ?_); by_cases q : i = c.toNat <;> simp_all [rnC, fCl, upd, clOf, nth, AV.cells, avI_s, avI_i, ofVal, cellOf] <;> (intro hz; omega))
            ·
              first | (apply Nat.ble_eq_true_of_le; omega) | (simp [Nat.blt_eq]; omega) | (exfalso; omega) | (rw [hE]; done) | exact hE.symm | (rw [hE]; rfl) | (rw [hE]; exact hl) | (rw [hE]; exact Nat.le_refl _) | (rw [hE]; exact fun _ => rfl) | (rw [hE]; refine .inr (fun i hi => row_d ?_); simp [rnC, fCl, hE]; done) | (rw [hE]; refine .inr (fun i hi => row_d ?_); by_cases q : i = c.toNat <;> simp_all [rnC, fCl, upd, clOf, nth, AV.cells, avI_s, avI_i, ofVal, cellOf] <;> (intro hz; omega))
            ·
              first | (apply Nat.ble_eq_true_of_le; omega) | (simp [Nat.blt_eq]; omega) | (exfalso; omega) | (rw [hE]; done) | exact hE.symm | (rw [hE]; rfl) | (rw [hE]; exact hl) | (rw [hE]; exact Nat.le_refl _) | (rw [hE]; exact fun _ => rfl) | (rw [hE]; refine .inr (fun i hi => row_d ?_); simp [rnC, fCl, hE]; done) | (rw [hE]; refine .inr (fun i hi => row_d ?_); by_cases q : i = c.toNat <;> simp_all [rnC, fCl, upd, clOf, nth, AV.cells, avI_s, avI_i, ofVal, cellOf] <;> (intro hz; omega))
            ·
              first | (apply Nat.ble_eq_true_of_le; omega) | (simp [Nat.blt_eq]; omega) | (exfalso; omega) | (rw [hE]; done) | exact hE.symm | (rw [hE]; rfl) | (rw [hE]; exact hl) | (rw [hE]; exact Nat.le_refl _) | (rw [hE]; exact fun _ => rfl) | (rw [hE]; refine .inr (fun i hi => row_d ?_); simp [rnC, fCl, hE]; done) | (rw [hE]; refine .inr (fun i hi => row_d ?_); by_cases q : i = c.toNat <;> simp_all [rnC, fCl, upd, clOf, nth, AV.cells, avI_s, avI_i, ofVal, cellOf] <;> (intro hz; omega))
            ·
              first | (apply Nat.ble_eq_true_of_le; omega) | (simp [Nat.blt_eq]; omega) | (exfalso; omega) | (rw [hE]; done) | exact hE.symm | (rw [hE]; rfl) | (rw [hE]; exact hl) | (rw [hE]; exact Nat.le_refl _) | (rw [hE]; exact fun _ => rfl) | (rw [hE]; refine .inr (fun i hi => row_d ?_); simp [rnC, fCl, hE]; done) | (rw [hE]; refine .inr (fun i hi => row_d ?_); by_cases q : i = c.toNat <;> simp_all [rnC, fCl, upd, clOf, nth, AV.cells, avI_s, avI_i, ofVal, cellOf] <;> (intro hz; omega))
            ·
              first | (apply Nat.ble_eq_true_of_le; omega) | (simp [Nat.blt_eq]; omega) | (exfalso; omega) | (rw [hE]; done) | exact hE.symm | (rw [hE]; rfl) | (rw [hE]; exact hl) | (rw [hE]; exact Nat.le_refl _) | (rw [hE]; exact fun _ => rfl) | (rw [hE]; refine .inr (fun i hi => row_d ?_); simp [rnC, fCl, hE]; done) | (rw [hE]; refine .inr (fun i hi => row_d ?_); by_cases q : i = c.toNat <;> simp_all [rnC, fCl, upd, clOf, nth, AV.cells, avI_s, avI_i, ofVal, cellOf] <;> (intro hz; omega))
          | false =>
            have g5 := of_decide_eq_false h5
            try simp only [Int.ofNat_eq_natCast, ge_iff_le, gt_iff_lt, Int.not_lt, Int.not_le] at g5
            first | (have hE : (reE n (fCl g) last c s) = 0 := by (simp_all [reE, fCl, clOf]; done)) | (have hE : (reE n (fCl g) last c s) = 0 := by (simp_all [reE, fCl, clOf]; omega)) | (have hE : (reE n (fCl g) last c s) = 1 := by (simp_all [reE, fCl, clOf]; done)) | (have hE : (reE n (fCl g) last c s) = 1 := by (simp_all [reE, fCl, clOf]; omega)) | (have hE : (reE n (fCl g) last c s) = 4 := by (simp_all [reE, fCl, clOf]; done)) | (have hE : (reE n (fCl g) last c s) = 4 := by (simp_all [reE, fCl, clOf]; omega))
            refine ⟨2000, _, _, _, rend_6 .., (ob_cons ?_ (ob_cons rfl (ob_cons rfl (ob_cons rfl (ob_cons ?_ (ob_cons rfl (ob_cons ?_ (ob_cons ?_ (ob_cons h5 (ob_cons ?_ (ob_cons ?_ (ob_cons ?_ (ob_cons ?_ (ob_cons h4 (ob_cons ?_ (ob_cons ?_ (ob_cons h3 (ob_cons h2 (ob_cons h1 ob_nil)))))))))))))))))))⟩
            ·
              first | rfl | (exfalso; omega) | (rw [hE]; done) | exact hE.symm | (rw [hE]; rfl) | (rw [hE]; exact hl) | (rw [hE]; exact Nat.le_refl _) | (rw [hE]; exact fun _ => rfl) | (rw [hE]; refine .inr (fun i hi => row_d ?_); simp [rnC, fCl, hE]; done) | (rw [hE]; refine .inr (fun i hi => row_d ?_); by_cases q : i = c.toNat <;> simp_all [rnC, fCl, upd, clOf, nth, AV.cells, avI_s, avI_i, ofVal, cellOf] <;> (intro hz; omega))
            ·
              first | rfl | (exfalso; omega) | (rw [hE]; done) | exact hE.symm | (rw [hE]; rfl) | (rw [hE]; exact hl) | (rw [hE]; exact Nat.le_refl _) | (rw [hE]; exact fun _ => rfl) | (rw [hE]; refine .inr (fun i hi => row_d ?_); simp [rnC, fCl, hE]; done) | (rw [hE]; refine .inr (fun i hi => row_d ?_); by_cases q : i = c.toNat <;> simp_all [rnC, fCl, upd, clOf, nth, AV.cells, avI_s, avI_i, ofVal, cellOf] <;> (intro hz; omega))
            ·
              first | exact Nat.le_refl _ | omega | (exfalso; omega) | (rw [hE]; done) | exact hE.symm | (rw [hE]; rfl) | (rw [hE]; exact hl) | (rw [hE]; exact Nat.le_refl _) | (rw [hE]; exact fun _ => rfl) | (rw [hE]; refine .inr (fun i hi => row_d ?_); simp [rnC, fCl, hE]; done) | (rw [hE]; refine .inr (fun i hi => row_d ?_); by_cases q : i = c.toNat <;> simp_all [rnC, fCl, upd, clOf, nth, AV.cells, avI_s, avI_i, ofVal, cellOf] <;> (intro hz; omega))
            ·
              first | exact .inl ⟨rfl, rfl⟩ | (exfalso; omega) | (rw [hE]; done) | exact hE.symm | (rw [hE]; rfl) | (rw [hE]; exact hl) | (rw [hE]; exact Nat.le_refl _) | (rw [hE]; exact fun _ => rfl) | (rw [hE]; refine .inr (fun i hi => row_d ?_); simp [rnC, fCl, hE]; done) | (rw [hE]; refine .inr (fun i hi => row_d ?_); by_cases q : i = c.toNat <;> simp_all [rnC, fCl, upd, clOf, nth, AV.cells, avI_s, avI_i, ofVal, cellOf] <;> (intro hz; omega))
            ·
              first | (apply Nat.ble_eq_true_of_le; omega) | (simp [Nat.blt_eq]; omega) | (exfalso; omega) | (rw [hE]; done) | exact hE.symm | (rw [hE]; rfl) | (rw [hE]; exact hl) | (rw [hE]; exact Nat.le_refl _) | (rw [hE]; exact fun _ => rfl) | (rw [hE]; refine .inr (fun i hi => row_d ?_); simp [rnC, fCl, hE]; done) | (rw [hE]; refine .inr (fun i hi => row_d ?_); by_cases q : i = c.toNat <;> simp_all [rnC, fCl, upd, clOf, nth, AV.cells, avI_s, avI_i, ofVal, cellOf] <;> (intro hz; omega))
            ·
              first | (apply Nat.ble_eq_true_of_le; omega) | (simp [Nat.blt_eq]; omega) | (exfalso; omega) | (rw [hE]; done) | exact hE.symm | (rw [hE]; rfl) | (rw [hE]; exact hl) | (rw [hE]; exact Nat.le_refl _) | (rw [hE]; exact fun _ => rfl) | (rw [hE]; refine .inr (fun i hi => row_d ?_); simp [rnC, fCl, hE]; done) | (rw [hE]; refine .inr (fun i hi => row_d ?_); by_cases q : i = c.toNat <;> simp_all [rnC, fCl, upd, clOf, nth, AV.cells, avI_s, avI_i, ofVal, cellOf] <;> (intro hz; omega))
            ·
              first | (apply Nat.ble_eq_true_of_le; omega) | (simp [Nat.blt_eq]; omega) | (exfalso; omega) | (rw [hE]; done) | exact hE.symm | (rw [hE]; rfl) | (rw [hE]; exact hl) | (rw [hE]; exact Nat.le_refl _) | (rw [hE]; exact fun _ => rfl) | (rw [hE]; refine .inr (fun i hi => row_d ?_); simp [rnC, fCl, hE]; done) | (rw [hE]; refine .inr (fun i hi => row_d ?_); by_cases q : i = c.toNat <;> simp_all [rnC, fCl, upd, clOf, nth, AV.cells, avI_s, avI_i, ofVal, cellOf] <;> (intro hz; omega))
            ·
              first | (apply Nat.ble_eq_true_of_le; omega) | (simp [Nat.blt_eq]; omega) | (exfalso; omega) | (rw [hE]; done) | exact hE.symm | (rw [hE]; rfl) | (rw [hE]; exact hl) | (rw [hE]; exact Nat.le_refl _) | (rw [hE]; exact fun _ => rfl) | (rw [hE]; refine .inr (fun i hi => row_d ?_); simp [rnC, fCl, hE]; done) | (rw [hE]; refine .inr (fun i hi => row_d ?_); by_cases q : i = c.toNat <;> simp_all [rnC, fCl, upd, clOf, nth, AV.cells, avI_s, avI_i, ofVal, cellOf] <;> (intro hz; omega))
            ·
              first | (apply Nat.ble_eq_true_of_le; omega) | (simp [Nat.blt_eq]; omega) | (exfalso; omega) | (rw [hE]; done) | exact hE.symm | (rw [hE]; rfl) | (rw [hE]; exact hl) | (rw [hE]; exact Nat.le_refl _) | (rw [hE]; exact fun _ => rfl) | (rw [hE]; refine .inr (fun i hi => row_d ?_); simp [rnC, fCl, hE]; done) | (rw [hE]; refine .inr (fun i hi => row_d ?_); by_cases q : i = c.toNat <;> simp_all [rnC, fCl, upd, clOf, nth, AV.cells, avI_s, avI_i, ofVal, cellOf] <;> (intro hz; omega))
            ·
              first | (apply Nat.ble_eq_true_of_le; omega) | (simp [Nat.blt_eq]; omega) | (exfalso; omega) | (rw [hE]; done) | exact hE.symm | (rw [hE]; rfl) | (rw [hE]; exact hl) | (rw [hE]; exact Nat.le_refl _) | (rw [hE]; exact fun _ => rfl) | (rw [hE]; refine .inr (fun i hi => row_d ?_); simp [rnC, fCl, hE]; done) | (rw [hE]; refine .inr (fun i hi => row_d ?_); by_cases q : i = c.toNat <;> simp_all [rnC, fCl, upd, clOf, nth, AV.cells, avI_s, avI_i, ofVal, cellOf] <;> (intro hz; omega))
noncomputable def rendSpec : LSpec := fun la lh => match la, lh with
  | [.ptr z1 z2 z3, .sym .i64 c, .sym .i64 s], [(z4, .cells z5 [.ss z6 z7 z8 n none, .sym .i64 last]), (z9, .arr z10 z11 false l g)] =>
    match Nat.beq z1 1 && (Nat.beq z2 0 && (Nat.beq z3 0 && (Nat.beq z4 1 && (Nat.beq z5 2 && (Nat.beq z6 9 && (Nat.beq z7 2 && (Nat.beq z8 0 && (Nat.beq z9 2 && (Nat.beq z10 9 && (shBeq z11 dSh)))))))))) with
    | true => some (rendR c s n l g last)
    | false => none
  | _, _ => none
theorem rendSpec_ok (la : List AV) (lh : List (Nat × AO)) (R : LR) (h : rendSpec la lh = some R) : LocOk Try.prog 30 la lh R := by
  unfold rendSpec at h
  split at h
  · rename_i z1 z2 z3 c s z4 z5 z6 z7 z8 n last z9 z10 z11 l g
    split at h
    · rename_i hb
      simp only [Bool.and_eq_true] at hb
      obtain ⟨e1, e2, e3, e4, e5, e6, e7, e8, e9, e10, e11⟩ := hb
      have e1 := Nat.eq_of_beq_eq_true e1; subst e1
      have e2 := Nat.eq_of_beq_eq_true e2; subst e2
      have e3 := Nat.eq_of_beq_eq_true e3; subst e3
      have e4 := Nat.eq_of_beq_eq_true e4; subst e4
      have e5 := Nat.eq_of_beq_eq_true e5; subst e5
      have e6 := Nat.eq_of_beq_eq_true e6; subst e6
      have e7 := Nat.eq_of_beq_eq_true e7; subst e7
      have e8 := Nat.eq_of_beq_eq_true e8; subst e8
      have e9 := Nat.eq_of_beq_eq_true e9; subst e9
      have e10 := Nat.eq_of_beq_eq_true e10; subst e10
      have e11 := shBeq_eq e11; subst e11
      cases h
      exact rend_loc c s n l g last
    · cases h
  · cases h

end Go.Proofs.Ytnecknppajbcdaa
