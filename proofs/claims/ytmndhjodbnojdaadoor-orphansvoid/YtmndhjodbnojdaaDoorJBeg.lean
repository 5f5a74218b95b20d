/-
  Begin of a pair of memories.
-/
import Derived.Test.YtmndhjodbnojdaaDoorJBegDef
set_option linter.unusedSimpArgs false
set_option linter.unusedVariables false
namespace Go.Proofs.YtmndhjodbnojdaaDoor
open Go.Ev
theorem bgr_1 (m l : Nat) (r : Bool) (f : Nat → Nat → AV) (W : Nat → Wd) (ii : Nat) (S : MS) (R : RS) : roundB EP1 2000 lcBg ((bgU m l r f).hp) [(7, Src.nm 1022934564967544334379121780258624735067700639388457746713528552530041811376460798401021903851845049109652088789862522190380392670589185329165164871683)] (bgT m r W ii S R) [Hint.b true, Hint.b true] (bgT m r W (ii + 1) (mStore S (W (0 + ii)).k (W (0 + ii)).a (W (0 + ii)).f (W (0 + ii)).v) (rStore R (W (0 + ii)).k (W (0 + ii)).a (W (0 + ii)).f (W (0 + ii)).v)) =
 some (Ex.norm, [(0 : Nat) = 0,
 m = m,
 (none : Option Nat) = none,
 (0 : Nat) = 0,
 (0 : Nat) = 0,
 (0 : Nat) = 0,
 (0 : Nat) = 0,
 IntKind.i64.wrap (Int.ofNat ii + 1) = Int.ofNat (ii + 1),
 (0 : Nat) = 0,
 (0 : Nat) = 0,
 (0 : Nat) = 0,
 (0 : Nat) = 0,
 (0 : Nat) = 0,
 (dPut (dOf R.D.n (wdF R.D.W)) (W (0 + ii)).1 (W (0 + ii)).2 (W (0 + ii)).3 (W (0 + ii)).4).n = (rStore R (W (0 + ii)).k (W (0 + ii)).a (W (0 + ii)).f (W (0 + ii)).v).D.n,
 (none : Option Nat) = none,
 IntKind.i64.wrap (R.st + 1) = (rStore R (W (0 + ii)).k (W (0 + ii)).a (W (0 + ii)).f (W (0 + ii)).v).st,
 (2 : Int) = 2,
 (W (0 + ii)).1 = (rStore R (W (0 + ii)).k (W (0 + ii)).a (W (0 + ii)).f (W (0 + ii)).v).L.k,
 (W (0 + ii)).2 = (rStore R (W (0 + ii)).k (W (0 + ii)).a (W (0 + ii)).f (W (0 + ii)).v).L.a,
 (W (0 + ii)).3 = (rStore R (W (0 + ii)).k (W (0 + ii)).a (W (0 + ii)).f (W (0 + ii)).v).L.f,
 dWord (dOf R.D.n (wdF R.D.W)) (W (0 + ii)).1 (W (0 + ii)).2 (W (0 + ii)).3 = (rStore R (W (0 + ii)).k (W (0 + ii)).a (W (0 + ii)).f (W (0 + ii)).v).L.w,
 dWord (dPut (dOf R.D.n (wdF R.D.W)) (W (0 + ii)).1 (W (0 + ii)).2 (W (0 + ii)).3 (W (0 + ii)).4) (W (0 + ii)).1 (W (0 + ii)).2 (W (0 + ii)).3 = (rStore R (W (0 + ii)).k (W (0 + ii)).a (W (0 + ii)).f (W (0 + ii)).v).L.i,
 false = (rStore R (W (0 + ii)).k (W (0 + ii)).a (W (0 + ii)).f (W (0 + ii)).v).L.d,
 IntKind.i64.wrap (S.st + 1) = (mStore S (W (0 + ii)).k (W (0 + ii)).a (W (0 + ii)).f (W (0 + ii)).v).st,
 (2 : Int) = 2,
 (W (0 + ii)).1 = (mStore S (W (0 + ii)).k (W (0 + ii)).a (W (0 + ii)).f (W (0 + ii)).v).L.k,
 (W (0 + ii)).2 = (mStore S (W (0 + ii)).k (W (0 + ii)).a (W (0 + ii)).f (W (0 + ii)).v).L.a,
 (W (0 + ii)).3 = (mStore S (W (0 + ii)).k (W (0 + ii)).a (W (0 + ii)).f (W (0 + ii)).v).L.f,
 mget S.M (key (W (0 + ii)).1 (W (0 + ii)).2 (W (0 + ii)).3) = (mStore S (W (0 + ii)).k (W (0 + ii)).a (W (0 + ii)).f (W (0 + ii)).v).L.w,
 memIs S.M (W (0 + ii)).1 (W (0 + ii)).2 (W (0 + ii)).3 (W (0 + ii)).4 = (mStore S (W (0 + ii)).k (W (0 + ii)).a (W (0 + ii)).f (W (0 + ii)).v).L.i,
 false = (mStore S (W (0 + ii)).k (W (0 + ii)).a (W (0 + ii)).f (W (0 + ii)).v).L.d,
 ∀ (k : List Int), memPut S.M (W (0 + ii)).1 (W (0 + ii)).2 (W (0 + ii)).3 (W (0 + ii)).4 k = (mStore S (W (0 + ii)).k (W (0 + ii)).a (W (0 + ii)).f (W (0 + ii)).v).M k,
 false = false,
 (rStore R (W (0 + ii)).k (W (0 + ii)).a (W (0 + ii)).f (W (0 + ii)).v).D.n ≤ (dPut (dOf R.D.n (wdF R.D.W)) (W (0 + ii)).1 (W (0 + ii)).2 (W (0 + ii)).3 (W (0 + ii)).4).n,
 wdF (rStore R (W (0 + ii)).k (W (0 + ii)).a (W (0 + ii)).f (W (0 + ii)).v).D.W = wdF (dPut (dOf R.D.n (wdF R.D.W)) (W (0 + ii)).1 (W (0 + ii)).2 (W (0 + ii)).3 (W (0 + ii)).4).W ∧ plainSh wSh = true ∨ ∀ (i : Nat), i < (rStore R (W (0 + ii)).k (W (0 + ii)).a (W (0 + ii)).f (W (0 + ii)).v).D.n → rowOb wSh 0 (wdF (dPut (dOf R.D.n (wdF R.D.W)) (W (0 + ii)).1 (W (0 + ii)).2 (W (0 + ii)).3 (W (0 + ii)).4).W i) (wdF (rStore R (W (0 + ii)).k (W (0 + ii)).a (W (0 + ii)).f (W (0 + ii)).v).D.W i),
 r = r,
 m ≤ m,
 wdF W = wdF W ∧ plainSh wSh = true ∨ ∀ (i : Nat), i < m → rowOb wSh 0 (wdF W i) (wdF W i),
 R.D.n ≤ R.D.n,
 R.D.n ≤ 100000,
 0 ≤ (W (0 + ii)).1,
 (0 + ii).blt m = true,
 (ii.blt m && decide (0 ≤ Int.ofNat ii)) = true,
 decide (Int.ofNat ii < 300) = true,
 decide (Int.ofNat ii < Int.ofNat m) = true]) := by kernel_rfl
theorem bgr_2 (m l : Nat) (r : Bool) (f : Nat → Nat → AV) (W : Nat → Wd) (ii : Nat) (S : MS) (R : RS) : roundB EP1 2000 lcBg ((bgU m l r f).hp) [(7, Src.nm 7)] (bgT m r W ii S R) [Hint.b true, Hint.b false] (bgX m r W S R) =
 some (Ex.exit 0, [(0 : Nat) = 0,
 (0 : Nat) = 0,
 (0 : Nat) = 0,
 (0 : Nat) = 0,
 (0 : Nat) = 0,
 (0 : Nat) = 0,
 (0 : Nat) = 0,
 (0 : Nat) = 0,
 (0 : Nat) = 0,
 R.D.n = R.D.n,
 (none : Option Nat) = none,
 R.st = R.st,
 R.L.c = R.L.c,
 R.L.k = R.L.k,
 R.L.a = R.L.a,
 R.L.f = R.L.f,
 R.L.w = R.L.w,
 R.L.i = R.L.i,
 R.L.d = R.L.d,
 S.st = S.st,
 S.L.c = S.L.c,
 S.L.k = S.L.k,
 S.L.a = S.L.a,
 S.L.f = S.L.f,
 S.L.w = S.L.w,
 S.L.i = S.L.i,
 S.L.d = S.L.d,
 ∀ (k : List Int), S.M k = S.M k,
 false = false,
 R.D.n ≤ R.D.n,
 wdF R.D.W = wdF R.D.W ∧ plainSh wSh = true ∨ ∀ (i : Nat), i < R.D.n → rowOb wSh 0 (wdF R.D.W i) (wdF R.D.W i),
 r = r,
 m ≤ m,
 wdF W = wdF W ∧ plainSh wSh = true ∨ ∀ (i : Nat), i < m → rowOb wSh 0 (wdF W i) (wdF W i),
 decide (Int.ofNat ii < 300) = false,
 decide (Int.ofNat ii < Int.ofNat m) = true]) := by kernel_rfl
theorem bgr_3 (m l : Nat) (r : Bool) (f : Nat → Nat → AV) (W : Nat → Wd) (ii : Nat) (S : MS) (R : RS) : roundB EP1 2000 lcBg ((bgU m l r f).hp) [(7, Src.nm 7)] (bgT m r W ii S R) [Hint.b false] (bgX m r W S R) =
 some (Ex.exit 0, [(0 : Nat) = 0,
 (0 : Nat) = 0,
 (0 : Nat) = 0,
 (0 : Nat) = 0,
 (0 : Nat) = 0,
 (0 : Nat) = 0,
 (0 : Nat) = 0,
 (0 : Nat) = 0,
 (0 : Nat) = 0,
 R.D.n = R.D.n,
 (none : Option Nat) = none,
 R.st = R.st,
 R.L.c = R.L.c,
 R.L.k = R.L.k,
 R.L.a = R.L.a,
 R.L.f = R.L.f,
 R.L.w = R.L.w,
 R.L.i = R.L.i,
 R.L.d = R.L.d,
 S.st = S.st,
 S.L.c = S.L.c,
 S.L.k = S.L.k,
 S.L.a = S.L.a,
 S.L.f = S.L.f,
 S.L.w = S.L.w,
 S.L.i = S.L.i,
 S.L.d = S.L.d,
 ∀ (k : List Int), S.M k = S.M k,
 false = false,
 R.D.n ≤ R.D.n,
 wdF R.D.W = wdF R.D.W ∧ plainSh wSh = true ∨ ∀ (i : Nat), i < R.D.n → rowOb wSh 0 (wdF R.D.W i) (wdF R.D.W i),
 r = r,
 m ≤ m,
 wdF W = wdF W ∧ plainSh wSh = true ∨ ∀ (i : Nat), i < m → rowOb wSh 0 (wdF W i) (wdF W i),
 decide (Int.ofNat ii < Int.ofNat m) = false]) := by kernel_rfl
theorem bgi_1 (m l : Nat) (r : Bool) (f : Nat → Nat → AV) (W : Nat → Wd) : castSt ((bgU m l r f).hp) [(7, Src.nil 4)] (bgU m l r f) (bgT m r W 0 ms0 rs0) =
 some ([(0 : Nat) = 0,
 m = m,
 (none : Option Nat) = none,
 (0 : Nat) = 0,
 (0 : Nat) = 0,
 (0 : Nat) = 0,
 (0 : Nat) = 0,
 (0 : Int) = 0,
 (0 : Nat) = 0,
 (0 : Nat) = 0,
 (0 : Nat) = 0,
 (0 : Nat) = 0,
 (0 : Nat) = 0,
 (0 : Nat) = 0,
 (none : Option Nat) = none,
 (0 : Int) = 0,
 (0 : Int) = 0,
 (0 : Int) = 0,
 (0 : Int) = 0,
 (0 : Int) = 0,
 (0 : Int) = 0,
 (0 : Int) = 0,
 false = rs0.L.d,
 (0 : Int) = 0,
 (0 : Int) = 0,
 (0 : Int) = 0,
 (0 : Int) = 0,
 (0 : Int) = 0,
 (0 : Int) = 0,
 (0 : Int) = 0,
 false = ms0.L.d,
 ∀ (k : List Int), none = ms0.M k,
 (0 : Nat) = 0,
 r = r,
 m ≤ l,
 wdF W = f ∧ plainSh wSh = true ∨ ∀ (i : Nat), i < m → rowOb wSh 0 (f i) (wdF W i)]) := by kernel_rfl
theorem bgc_1 (m l : Nat) (r : Bool) (f : Nat → Nat → AV) (W : Nat → Wd) (S : MS) (R : RS) : callB EP1 2000 32 [AV.ss 4 1 0 m none] (bgH l r f) (LR.mk 1 (AV.agg [AV.ptr 2 0 0, AV.ptr 4 0 0]) [(2, AO.cells 9 (AV.map 3 :: lsL S.st S.L)), (3, AO.map 115 S.M), (4, AO.cells 9 (AV.ss 4 5 0 R.D.n none :: lsL R.st R.L)), (5, AO.arr 4 wSh false R.D.n (wdF R.D.W)), (1, AO.arr 4 wSh r m (wdF W))] 4 [] [m ≤ l, m ≤ 300, ∀ (i : Nat), i < m → 0 ≤ avInt (f i 0)]) [(2, Src.nm 4), (4, Src.nm 5), (5, Src.nm 7), (3, Src.nm 3)] [Hint.lp [0, 2, 3, 4] (Ex.exit 0) (bgX m r W S R).tmps (bgX m r W S R).hp.heap 8 [3, 4, 5, 6], Hint.b true] =
 some ([(0 : Nat) = 0,
 (0 : Nat) = 0,
 (0 : Nat) = 0,
 (0 : Nat) = 0,
 S.st = S.st,
 S.L.c = S.L.c,
 S.L.k = S.L.k,
 S.L.a = S.L.a,
 S.L.f = S.L.f,
 S.L.w = S.L.w,
 S.L.i = S.L.i,
 S.L.d = S.L.d,
 ∀ (k : List Int), S.M k = S.M k,
 (0 : Nat) = 0,
 R.D.n = R.D.n,
 (none : Option Nat) = none,
 R.st = R.st,
 R.L.c = R.L.c,
 R.L.k = R.L.k,
 R.L.a = R.L.a,
 R.L.f = R.L.f,
 R.L.w = R.L.w,
 R.L.i = R.L.i,
 R.L.d = R.L.d,
 false = false,
 R.D.n ≤ R.D.n,
 wdF R.D.W = wdF R.D.W ∧ plainSh wSh = true ∨ ∀ (i : Nat), i < R.D.n → rowOb wSh 0 (wdF R.D.W i) (wdF R.D.W i),
 r = r,
 m ≤ m,
 wdF W = wdF W ∧ plainSh wSh = true ∨ ∀ (i : Nat), i < m → rowOb wSh 0 (wdF W i) (wdF W i),
 bgL m l r f W S R]) := by kernel_rfl
theorem bg_lp (m l : Nat) (r : Bool) (f : Nat → Nat → AV) (W : Nat → Wd) (hl : m ≤ l) (hm : m ≤ 300) (hA : ∀ i, i < m → wdOf (f i) = W i) (hk' : ∀ i, i < m → 0 ≤ (W i).k) : bgL m l r f W (msN W m) (rsN W m) := by
  have hk : ∀ i, i < m → 0 ≤ (W (0 + i)).k := fun i hi => by rw [Nat.zero_add]; exact hk' i hi
  refine loop_rule EP1_ok (I := Nat) (bgF m r W) (fun i => m - i) (fun i => i ≤ m) ?_ (fun ii hi => ?_)
  ·
    refine ⟨0, [(7, Src.nil 4)], _, Nat.zero_le _, bgi_1 m l r f W, (ob_cons rfl (ob_cons rfl (ob_cons rfl (ob_cons rfl (ob_cons rfl (ob_cons rfl (ob_cons rfl (ob_cons rfl (ob_cons rfl (ob_cons rfl (ob_cons rfl (ob_cons rfl (ob_cons rfl (ob_cons rfl (ob_cons rfl (ob_cons rfl (ob_cons rfl (ob_cons rfl (ob_cons rfl (ob_cons rfl (ob_cons rfl (ob_cons rfl (ob_cons ?_ (ob_cons rfl (ob_cons rfl (ob_cons rfl (ob_cons rfl (ob_cons rfl (ob_cons rfl (ob_cons rfl (ob_cons ?_ (ob_cons ?_ (ob_cons rfl (ob_cons rfl (ob_cons ?_ (ob_cons ?_ ob_nil))))))))))))))))))))))))))))))))))))⟩
    ·
      first | rfl | exact .inr (fun i hi => row_wd (hA i hi)) | exact .inl ⟨rfl, rfl⟩ | (refine .inr (fun i hi => ?_); omega) | omega
    ·
      first | rfl | exact .inr (fun i hi => row_wd (hA i hi)) | exact .inl ⟨rfl, rfl⟩ | (refine .inr (fun i hi => ?_); omega) | omega
    ·
      first | exact fun _ => rfl | exact .inr (fun i hi => row_wd (hA i hi)) | exact .inl ⟨rfl, rfl⟩ | (refine .inr (fun i hi => ?_); omega) | omega
    ·
      first | exact Nat.le_refl _ | omega | exact .inr (fun i hi => row_wd (hA i hi)) | exact .inl ⟨rfl, rfl⟩ | (refine .inr (fun i hi => ?_); omega) | omega
    ·
      first | exact .inl ⟨rfl, rfl⟩ | exact .inr (fun i hi => row_wd (hA i hi)) | exact .inl ⟨rfl, rfl⟩ | (refine .inr (fun i hi => ?_); omega) | omega
  have hi : ii ≤ m := hi
  have hn := rsN_n W ii
  cases h1 : (decide (Int.ofNat ii < Int.ofNat m)) with
  | true =>
    have g1 := of_decide_eq_true h1
    try simp only [Int.ofNat_eq_natCast, ge_iff_le, gt_iff_lt, Int.not_lt, Int.not_le] at g1
    cases h2 : (decide (Int.ofNat ii < 300)) with
    | true =>
      have g2 := of_decide_eq_true h2
      try simp only [Int.ofNat_eq_natCast, ge_iff_le, gt_iff_lt, Int.not_lt, Int.not_le] at g2
      refine round_norm (s0 := bgU m l r f) (T := bgF m r W) (i := ii) (ii + 1) (bgr_1 m l r f W ii (msN W ii) (rsN W ii)) (ob_cons rfl (ob_cons rfl (ob_cons rfl (ob_cons rfl (ob_cons rfl (ob_cons rfl (ob_cons rfl (ob_cons ?_ (ob_cons rfl (ob_cons rfl (ob_cons rfl (ob_cons rfl (ob_cons rfl (ob_cons ?_ (ob_cons rfl (ob_cons ?_ (ob_cons rfl (ob_cons ?_ (ob_cons ?_ (ob_cons ?_ (ob_cons ?_ (ob_cons ?_ (ob_cons ?_ (ob_cons ?_ (ob_cons rfl (ob_cons ?_ (ob_cons ?_ (ob_cons ?_ (ob_cons ?_ (ob_cons ?_ (ob_cons ?_ (ob_cons ?_ (ob_cons rfl (ob_cons ?_ (ob_cons ?_ (ob_cons rfl (ob_cons (Nat.le_refl _) (ob_cons (.inl ⟨rfl, rfl⟩) (ob_cons (Nat.le_refl _) (ob_cons ?_ (ob_cons ?_ (ob_cons ?_ (ob_cons ?_ (ob_cons h2 (ob_cons h1 ob_nil))))))))))))))))))))))))))))))))))))))))))))) (by show ii + 1 ≤ m; omega) (by show m - (ii + 1) < m - ii; omega)
      ·
        first | exact wrap_nat64 _ (by simp; omega) (by simp; omega) | (show IntKind.i64.wrap (_ + 1) = _; rfl) | omega | exact hk _ (by omega) | exact .inr (fun i hi => row_wd rfl) | exact .inl ⟨rfl, rfl⟩ | exact fun _ => rfl | (simp; omega)
      ·
        first | rfl | (show IntKind.i64.wrap (_ + 1) = _; rfl) | omega | exact hk _ (by omega) | exact .inr (fun i hi => row_wd rfl) | exact .inl ⟨rfl, rfl⟩ | exact fun _ => rfl | (simp; omega)
      ·
        first | exact wrap_nat64 _ (by simp; omega) (by simp; omega) | (show IntKind.i64.wrap (_ + 1) = _; rfl) | omega | exact hk _ (by omega) | exact .inr (fun i hi => row_wd rfl) | exact .inl ⟨rfl, rfl⟩ | exact fun _ => rfl | (simp; omega)
      ·
        first | rfl | (show IntKind.i64.wrap (_ + 1) = _; rfl) | omega | exact hk _ (by omega) | exact .inr (fun i hi => row_wd rfl) | exact .inl ⟨rfl, rfl⟩ | exact fun _ => rfl | (simp; omega)
      ·
        first | rfl | (show IntKind.i64.wrap (_ + 1) = _; rfl) | omega | exact hk _ (by omega) | exact .inr (fun i hi => row_wd rfl) | exact .inl ⟨rfl, rfl⟩ | exact fun _ => rfl | (simp; omega)
      ·
        first | rfl | (show IntKind.i64.wrap (_ + 1) = _; rfl) | omega | exact hk _ (by omega) | exact .inr (fun i hi => row_wd rfl) | exact .inl ⟨rfl, rfl⟩ | exact fun _ => rfl | (simp; omega)
      ·
        first | rfl | (show IntKind.i64.wrap (_ + 1) = _; rfl) | omega | exact hk _ (by omega) | exact .inr (fun i hi => row_wd rfl) | exact .inl ⟨rfl, rfl⟩ | exact fun _ => rfl | (simp; omega)
      ·
        first | rfl | (show IntKind.i64.wrap (_ + 1) = _; rfl) | omega | exact hk _ (by omega) | exact .inr (fun i hi => row_wd rfl) | exact .inl ⟨rfl, rfl⟩ | exact fun _ => rfl | (simp; omega)
      ·
        first | rfl | (show IntKind.i64.wrap (_ + 1) = _; rfl) | omega | exact hk _ (by omega) | exact .inr (fun i hi => row_wd rfl) | exact .inl ⟨rfl, rfl⟩ | exact fun _ => rfl | (simp; omega)
      ·
        first | exact wrap_nat64 _ (by simp; omega) (by simp; omega) | (show IntKind.i64.wrap (_ + 1) = _; rfl) | omega | exact hk _ (by omega) | exact .inr (fun i hi => row_wd rfl) | exact .inl ⟨rfl, rfl⟩ | exact fun _ => rfl | (simp; omega)
      ·
        first | rfl | (show IntKind.i64.wrap (_ + 1) = _; rfl) | omega | exact hk _ (by omega) | exact .inr (fun i hi => row_wd rfl) | exact .inl ⟨rfl, rfl⟩ | exact fun _ => rfl | (simp; omega)
      ·
        first | rfl | (show IntKind.i64.wrap (_ + 1) = _; rfl) | omega | exact hk _ (by omega) | exact .inr (fun i hi => row_wd rfl) | exact .inl ⟨rfl, rfl⟩ | exact fun _ => rfl | (simp; omega)
      ·
        first | rfl | (show IntKind.i64.wrap (_ + 1) = _; rfl) | omega | exact hk _ (by omega) | exact .inr (fun i hi => row_wd rfl) | exact .inl ⟨rfl, rfl⟩ | exact fun _ => rfl | (simp; omega)
      ·
        first | rfl | (show IntKind.i64.wrap (_ + 1) = _; rfl) | omega | exact hk _ (by omega) | exact .inr (fun i hi => row_wd rfl) | exact .inl ⟨rfl, rfl⟩ | exact fun _ => rfl | (simp; omega)
      ·
        first | rfl | (show IntKind.i64.wrap (_ + 1) = _; rfl) | omega | exact hk _ (by omega) | exact .inr (fun i hi => row_wd rfl) | exact .inl ⟨rfl, rfl⟩ | exact fun _ => rfl | (simp; omega)
      ·
        first | rfl | (show IntKind.i64.wrap (_ + 1) = _; rfl) | omega | exact hk _ (by omega) | exact .inr (fun i hi => row_wd rfl) | exact .inl ⟨rfl, rfl⟩ | exact fun _ => rfl | (simp; omega)
      ·
        first | exact fun _ => rfl | (show IntKind.i64.wrap (_ + 1) = _; rfl) | omega | exact hk _ (by omega) | exact .inr (fun i hi => row_wd rfl) | exact .inl ⟨rfl, rfl⟩ | exact fun _ => rfl | (simp; omega)
      ·
        first | exact Nat.le_refl _ | omega | (show IntKind.i64.wrap (_ + 1) = _; rfl) | omega | exact hk _ (by omega) | exact .inr (fun i hi => row_wd rfl) | exact .inl ⟨rfl, rfl⟩ | exact fun _ => rfl | (simp; omega)
      ·
        first | exact .inl ⟨rfl, rfl⟩ | (show IntKind.i64.wrap (_ + 1) = _; rfl) | omega | exact hk _ (by omega) | exact .inr (fun i hi => row_wd rfl) | exact .inl ⟨rfl, rfl⟩ | exact fun _ => rfl | (simp; omega)
      ·
        first | exact Nat.le_refl _ | omega | (show IntKind.i64.wrap (_ + 1) = _; rfl) | omega | exact hk _ (by omega) | exact .inr (fun i hi => row_wd rfl) | exact .inl ⟨rfl, rfl⟩ | exact fun _ => rfl | (simp; omega)
      ·
        first | exact Nat.le_refl _ | omega | (show IntKind.i64.wrap (_ + 1) = _; rfl) | omega | exact hk _ (by omega) | exact .inr (fun i hi => row_wd rfl) | exact .inl ⟨rfl, rfl⟩ | exact fun _ => rfl | (simp; omega)
      ·
        first | (apply Nat.ble_eq_true_of_le; omega) | (simp [Nat.blt_eq]; omega) | (show IntKind.i64.wrap (_ + 1) = _; rfl) | omega | exact hk _ (by omega) | exact .inr (fun i hi => row_wd rfl) | exact .inl ⟨rfl, rfl⟩ | exact fun _ => rfl | (simp; omega)
      ·
        first | (apply Nat.ble_eq_true_of_le; omega) | (simp [Nat.blt_eq]; omega) | (show IntKind.i64.wrap (_ + 1) = _; rfl) | omega | exact hk _ (by omega) | exact .inr (fun i hi => row_wd rfl) | exact .inl ⟨rfl, rfl⟩ | exact fun _ => rfl | (simp; omega)
    | false =>
      have g2 := of_decide_eq_false h2
      try simp only [Int.ofNat_eq_natCast, ge_iff_le, gt_iff_lt, Int.not_lt, Int.not_le] at g2
      obtain rfl : ii = m := by omega
      refine round_exit (s0 := bgU ii l r f) (T := bgF ii r W) (i := ii) (bgr_2 ii l r f W ii (msN W ii) (rsN W ii)) (by simp) (ob_cons rfl (ob_cons rfl (ob_cons rfl (ob_cons rfl (ob_cons rfl (ob_cons rfl (ob_cons rfl (ob_cons rfl (ob_cons rfl (ob_cons rfl (ob_cons rfl (ob_cons rfl (ob_cons rfl (ob_cons rfl (ob_cons rfl (ob_cons rfl (ob_cons rfl (ob_cons rfl (ob_cons rfl (ob_cons rfl (ob_cons rfl (ob_cons rfl (ob_cons rfl (ob_cons rfl (ob_cons rfl (ob_cons rfl (ob_cons rfl (ob_cons (fun _ => rfl) (ob_cons rfl (ob_cons (Nat.le_refl _) (ob_cons (.inl ⟨rfl, rfl⟩) (ob_cons rfl (ob_cons (Nat.le_refl _) (ob_cons (.inl ⟨rfl, rfl⟩) (ob_cons h2 (ob_cons h1 ob_nil))))))))))))))))))))))))))))))))))))
  | false =>
    have g1 := of_decide_eq_false h1
    try simp only [Int.ofNat_eq_natCast, ge_iff_le, gt_iff_lt, Int.not_lt, Int.not_le] at g1
    obtain rfl : ii = m := by omega
    refine round_exit (s0 := bgU ii l r f) (T := bgF ii r W) (i := ii) (bgr_3 ii l r f W ii (msN W ii) (rsN W ii)) (by simp) (ob_cons rfl (ob_cons rfl (ob_cons rfl (ob_cons rfl (ob_cons rfl (ob_cons rfl (ob_cons rfl (ob_cons rfl (ob_cons rfl (ob_cons rfl (ob_cons rfl (ob_cons rfl (ob_cons rfl (ob_cons rfl (ob_cons rfl (ob_cons rfl (ob_cons rfl (ob_cons rfl (ob_cons rfl (ob_cons rfl (ob_cons rfl (ob_cons rfl (ob_cons rfl (ob_cons rfl (ob_cons rfl (ob_cons rfl (ob_cons rfl (ob_cons (fun _ => rfl) (ob_cons rfl (ob_cons (Nat.le_refl _) (ob_cons (.inl ⟨rfl, rfl⟩) (ob_cons rfl (ob_cons (Nat.le_refl _) (ob_cons (.inl ⟨rfl, rfl⟩) (ob_cons h1 ob_nil)))))))))))))))))))))))))))))))))))
theorem bg_loc (m l : Nat) (r : Bool) (f : Nat → Nat → AV) : LocOk Tryd.prog 32 [.ss 4 1 0 m none] (bgH l r f) (bgR m l r f) := by
  refine loc_of_call EP1_ok (fun hp => ?_)
  have hl : m ≤ l := hp _ (List.mem_cons_self ..)
  have hm : m ≤ 300 := hp _ (List.mem_cons_of_mem _ (List.mem_cons_self ..))
  have hk : ∀ i, i < m → 0 ≤ avInt (f i 0) := hp _ (List.mem_cons_of_mem _ (List.mem_cons_of_mem _ (List.mem_cons_self ..)))
  clear hp
  have hl2 := bg_lp m l r f (bgW f) hl hm (fun i hi => rfl) hk
  refine ⟨2000, _, _, _, bgc_1 m l r f (bgW f) (msN (bgW f) m) (rsN (bgW f) m), (ob_cons rfl (ob_cons rfl (ob_cons rfl (ob_cons rfl (ob_cons rfl (ob_cons rfl (ob_cons rfl (ob_cons rfl (ob_cons rfl (ob_cons rfl (ob_cons rfl (ob_cons rfl (ob_cons (fun _ => rfl) (ob_cons rfl (ob_cons rfl (ob_cons rfl (ob_cons rfl (ob_cons rfl (ob_cons rfl (ob_cons rfl (ob_cons rfl (ob_cons rfl (ob_cons rfl (ob_cons rfl (ob_cons rfl (ob_cons (Nat.le_refl _) (ob_cons (.inl ⟨rfl, rfl⟩) (ob_cons rfl (ob_cons (Nat.le_refl _) (ob_cons (.inl ⟨rfl, rfl⟩) (ob_cons ?_ ob_nil)))))))))))))))))))))))))))))))⟩
  ·
    first | trivial | exact hl2 | exact .inr (fun i hi => row_wd rfl) | exact fun _ => rfl
noncomputable def bgSpec : LSpec := fun la lh => match la, lh with
  | [.ss z1 z2 z3 m none], [(z4, .arr z5 z6 r l f)] =>
    match Nat.beq z1 4 && (Nat.beq z2 1 && (Nat.beq z3 0 && (Nat.beq z4 1 && (Nat.beq z5 4 && (shBeq z6 wSh))))) with
    | true => some (bgR m l r f)
    | false => none
  | _, _ => none
theorem bgSpec_ok (la : List AV) (lh : List (Nat × AO)) (R : LR) (h : bgSpec la lh = some R) : LocOk Tryd.prog 32 la lh R := by
  unfold bgSpec at h
  split at h
  · rename_i z1 z2 z3 m z4 z5 z6 r l f
    split at h
    · rename_i hb
      simp only [Bool.and_eq_true] at hb
      obtain ⟨e1, e2, e3, e4, e5, e6⟩ := hb
      have e1 := Nat.eq_of_beq_eq_true e1; subst e1
      have e2 := Nat.eq_of_beq_eq_true e2; subst e2
      have e3 := Nat.eq_of_beq_eq_true e3; subst e3
      have e4 := Nat.eq_of_beq_eq_true e4; subst e4
      have e5 := Nat.eq_of_beq_eq_true e5; subst e5
      have e6 := shBeq_eq e6; subst e6
      cases h
      exact bg_loc m l r f
    · cases h
  · cases h

end Go.Proofs.YtmndhjodbnojdaaDoor
