/-
  ErasHold: the loop over the moves.
-/
import Derived.Test.YtmlfmmnnbdlabaaNHeDef
set_option linter.unusedSimpArgs false
set_option linter.unusedVariables false
namespace Go.Proofs.Ytmlfmmnnbdlabaa
open Go.Ev
theorem hdc_1 (n : Nat) (g : Nat → Nat → AV) (sl ge : Int) (mk : Bool) (b ep er at_ : Int) (ii : Nat) (s0 s y : HS) : roundB EMo3 4000 hdL ((hdU n g sl ge mk b ep er at_ s0).hp) [] (hdT n g sl ge mk b ep er at_ ii s) [Hint.b true, Hint.b true] (hdT n g sl ge mk b ep er at_ (ii + 1) y) =
 some (Ex.norm, [(0 : Nat) = 0,
 n = n,
 (none : Option Nat) = none,
 (0 : Nat) = 0,
 (0 : Nat) = 0,
 (0 : Nat) = 0,
 (0 : Nat) = 0,
 (0 : Nat) = 0,
 (0 : Nat) = 0,
 at_ = at_,
 s.hi = y.hi,
 IntKind.u64.wrap (s.now + IntKind.u64.wrap ((avInt (g (0 + ii) 0)).tmod 3)) = y.now,
 s.high = y.high,
 IntKind.i64.wrap (Int.ofNat ii + 1) = Int.ofNat (ii + 1),
 IntKind.i64.wrap (s.X.st + 1) = y.X.st,
 2 = y.X.L.c,
 2 = y.X.L.k,
 0 = y.X.L.a,
 0 = y.X.L.f,
 mget s.X.M (key 2 0 0) = y.X.L.w,
 memIs s.X.M 2 0 0 (IntKind.u64.wrap (s.now + IntKind.u64.wrap ((avInt (g (0 + ii) 0)).tmod 3))) = y.X.L.i,
 false = y.X.L.d,
 ∀ (k : List Int), memPut s.X.M 2 0 0 (IntKind.u64.wrap (s.now + IntKind.u64.wrap ((avInt (g (0 + ii) 0)).tmod 3))) k = y.X.M k,
 sl = sl,
 ge = ge,
 mk = mk,
 b = b,
 ep = ep,
 er = er,
 true = true,
 n ≤ n,
 g = g ∧ plainSh [CK.int IntKind.u8] = true ∨ ∀ (i : Nat), i < n → rowOb [CK.int IntKind.u8] 0 (g i) (g i),
 ((IntKind.u8.wrap ((avInt (g (0 + ii) 0)).tdiv 3)).tmod 2 == 1) = true,
 (0 + ii).blt n = true,
 (ii.blt n && decide (0 ≤ Int.ofNat ii)) = true,
 (0 : Int) ≤ (2 : Int),
 (0 + ii).blt n = true,
 (ii.blt n && decide (0 ≤ Int.ofNat ii)) = true,
 decide (Int.ofNat ii < Int.ofNat n) = true]) := by kernel_rfl
theorem hdy_1 (n : Nat) (g : Nat → Nat → AV) (sl ge : Int) (mk : Bool) (b ep er at_ : Int) (ii : Nat) (s0 s y : HS) : roundB EMo3 4000 hdL ((hdU n g sl ge mk b ep er at_ s0).hp) [] (hdT n g sl ge mk b ep er at_ ii s) [Hint.b true, Hint.b false, Hint.node [], Hint.b true, Hint.node [], Hint.b false] (hdT n g sl ge mk b ep er at_ (ii + 1) y) =
 some (Ex.norm, [(0 : Nat) = 0,
 n = n,
 (none : Option Nat) = none,
 (0 : Nat) = 0,
 (0 : Nat) = 0,
 (0 : Nat) = 0,
 (0 : Nat) = 0,
 (0 : Nat) = 0,
 (0 : Nat) = 0,
 at_ = at_,
 s.hi = y.hi,
 IntKind.u64.wrap (s.now + IntKind.u64.wrap ((avInt (g (0 + ii) 0)).tmod 3)) = y.now,
 IntKind.u64.wrap (s.now + IntKind.u64.wrap ((avInt (g (0 + ii) 0)).tmod 3)) = y.high,
 IntKind.i64.wrap (Int.ofNat ii + 1) = Int.ofNat (ii + 1),
 IntKind.i64.wrap (IntKind.i64.wrap (s.X.st + 1) + 1) = y.X.st,
 1 = y.X.L.c,
 2 = y.X.L.k,
 0 = y.X.L.a,
 0 = y.X.L.f,
 mget (memPut s.X.M 2 0 0 (IntKind.u64.wrap (s.now + IntKind.u64.wrap ((avInt (g (0 + ii) 0)).tmod 3)))) (key 2 0 0) = y.X.L.w,
 mget (memPut s.X.M 2 0 0 (IntKind.u64.wrap (s.now + IntKind.u64.wrap ((avInt (g (0 + ii) 0)).tmod 3)))) (key 2 0 0) = y.X.L.i,
 false = y.X.L.d,
 ∀ (k : List Int), memPut s.X.M 2 0 0 (IntKind.u64.wrap (s.now + IntKind.u64.wrap ((avInt (g (0 + ii) 0)).tmod 3))) k = y.X.M k,
 sl = sl,
 ge = ge,
 mk = mk,
 b = b,
 ep = ep,
 er = er,
 true = true,
 n ≤ n,
 g = g ∧ plainSh [CK.int IntKind.u8] = true ∨ ∀ (i : Nat), i < n → rowOb [CK.int IntKind.u8] 0 (g i) (g i),
 ((true == (IntKind.u64.wrap (s.now + IntKind.u64.wrap ((avInt (g (0 + ii) 0)).tmod 3)) == s.high)) == false) = false,
 (IntKind.u64.wrap (mget (memPut s.X.M 2 0 0 (IntKind.u64.wrap (s.now + IntKind.u64.wrap ((avInt (g (0 + ii) 0)).tmod 3)))) (key 2 0 0) + 1) == s.hi) = true,
 ((IntKind.u8.wrap ((avInt (g (0 + ii) 0)).tdiv 3)).tmod 2 == 1) = false,
 (0 + ii).blt n = true,
 (ii.blt n && decide (0 ≤ Int.ofNat ii)) = true,
 (0 : Int) ≤ (2 : Int),
 (0 + ii).blt n = true,
 (ii.blt n && decide (0 ≤ Int.ofNat ii)) = true,
 decide (Int.ofNat ii < Int.ofNat n) = true]) := by kernel_rfl
theorem hdm_1 (n : Nat) (g : Nat → Nat → AV) (sl ge : Int) (mk : Bool) (b ep er at_ : Int) (ii : Nat) (s0 s y : HS) : roundB EMo3 4000 hdL ((hdU n g sl ge mk b ep er at_ s0).hp) [] (hdT n g sl ge mk b ep er at_ ii s) [Hint.b true, Hint.b false, Hint.node [], Hint.b false, Hint.node [], Hint.b false] (hdT n g sl ge mk b ep er at_ (ii + 1) y) =
 some (Ex.norm, [(0 : Nat) = 0,
 n = n,
 (none : Option Nat) = none,
 (0 : Nat) = 0,
 (0 : Nat) = 0,
 (0 : Nat) = 0,
 (0 : Nat) = 0,
 (0 : Nat) = 0,
 (0 : Nat) = 0,
 at_ = at_,
 IntKind.u64.wrap (mget (memPut s.X.M 2 0 0 (IntKind.u64.wrap (s.now + IntKind.u64.wrap ((avInt (g (0 + ii) 0)).tmod 3)))) (key 2 0 0) + 1) = y.hi,
 IntKind.u64.wrap (s.now + IntKind.u64.wrap ((avInt (g (0 + ii) 0)).tmod 3)) = y.now,
 IntKind.u64.wrap (s.now + IntKind.u64.wrap ((avInt (g (0 + ii) 0)).tmod 3)) = y.high,
 IntKind.i64.wrap (Int.ofNat ii + 1) = Int.ofNat (ii + 1),
 IntKind.i64.wrap (IntKind.i64.wrap (IntKind.i64.wrap (s.X.st + 1) + 1) + 1) = y.X.st,
 2 = y.X.L.c,
 8 = y.X.L.k,
 3 = y.X.L.a,
 5 = y.X.L.f,
 mget (memPut s.X.M 2 0 0 (IntKind.u64.wrap (s.now + IntKind.u64.wrap ((avInt (g (0 + ii) 0)).tmod 3)))) (key 8 3 5) = y.X.L.w,
 memIs (memPut s.X.M 2 0 0 (IntKind.u64.wrap (s.now + IntKind.u64.wrap ((avInt (g (0 + ii) 0)).tmod 3)))) 8 3 5 (IntKind.u64.wrap (mget (memPut s.X.M 2 0 0 (IntKind.u64.wrap (s.now + IntKind.u64.wrap ((avInt (g (0 + ii) 0)).tmod 3)))) (key 2 0 0) + 1)) = y.X.L.i,
 false = y.X.L.d,
 ∀ (k : List Int), memPut (memPut s.X.M 2 0 0 (IntKind.u64.wrap (s.now + IntKind.u64.wrap ((avInt (g (0 + ii) 0)).tmod 3)))) 8 3 5 (IntKind.u64.wrap (mget (memPut s.X.M 2 0 0 (IntKind.u64.wrap (s.now + IntKind.u64.wrap ((avInt (g (0 + ii) 0)).tmod 3)))) (key 2 0 0) + 1)) k = y.X.M k,
 sl = sl,
 ge = ge,
 mk = mk,
 b = b,
 ep = ep,
 er = er,
 true = true,
 n ≤ n,
 g = g ∧ plainSh [CK.int IntKind.u8] = true ∨ ∀ (i : Nat), i < n → rowOb [CK.int IntKind.u8] 0 (g i) (g i),
 (0 : Int) ≤ (8 : Int),
 ((false == (IntKind.u64.wrap (s.now + IntKind.u64.wrap ((avInt (g (0 + ii) 0)).tmod 3)) == s.high)) == false) = false,
 (IntKind.u64.wrap (mget (memPut s.X.M 2 0 0 (IntKind.u64.wrap (s.now + IntKind.u64.wrap ((avInt (g (0 + ii) 0)).tmod 3)))) (key 2 0 0) + 1) == s.hi) = false,
 ((IntKind.u8.wrap ((avInt (g (0 + ii) 0)).tdiv 3)).tmod 2 == 1) = false,
 (0 + ii).blt n = true,
 (ii.blt n && decide (0 ≤ Int.ofNat ii)) = true,
 (0 : Int) ≤ (2 : Int),
 (0 + ii).blt n = true,
 (ii.blt n && decide (0 ≤ Int.ofNat ii)) = true,
 decide (Int.ofNat ii < Int.ofNat n) = true]) := by kernel_rfl
theorem hdx_1 (n : Nat) (g : Nat → Nat → AV) (sl ge : Int) (mk : Bool) (b ep er at_ : Int) (ii : Nat) (s0 s y : HS) : roundB EMo3 4000 hdL ((hdU n g sl ge mk b ep er at_ s0).hp) [] (hdT n g sl ge mk b ep er at_ ii s) [Hint.b false] (hdX n g sl ge mk b ep er at_ s) =
 some (Ex.exit 0, [(0 : Nat) = 0,
 (0 : Nat) = 0,
 (0 : Nat) = 0,
 (0 : Nat) = 0,
 (0 : Nat) = 0,
 (0 : Nat) = 0,
 at_ = at_,
 s.high = s.high,
 s.X.st = s.X.st,
 s.X.L.c = s.X.L.c,
 s.X.L.k = s.X.L.k,
 s.X.L.a = s.X.L.a,
 s.X.L.f = s.X.L.f,
 s.X.L.w = s.X.L.w,
 s.X.L.i = s.X.L.i,
 s.X.L.d = s.X.L.d,
 ∀ (k : List Int), s.X.M k = s.X.M k,
 sl = sl,
 ge = ge,
 mk = mk,
 b = b,
 ep = ep,
 er = er,
 true = true,
 n ≤ n,
 g = g ∧ plainSh [CK.int IntKind.u8] = true ∨ ∀ (i : Nat), i < n → rowOb [CK.int IntKind.u8] 0 (g i) (g i),
 decide (Int.ofNat ii < Int.ofNat n) = false]) := by kernel_rfl
theorem hdi_1 (n : Nat) (g : Nat → Nat → AV) (sl ge : Int) (mk : Bool) (b ep er at_ : Int) (s0 : HS) : castSt ((hdU n g sl ge mk b ep er at_ s0).hp) [] (hdU n g sl ge mk b ep er at_ s0) (hdT n g sl ge mk b ep er at_ 0 s0) =
 some ([(0 : Nat) = 0,
 n = n,
 (none : Option Nat) = none,
 (0 : Nat) = 0,
 (0 : Nat) = 0,
 (0 : Nat) = 0,
 (0 : Nat) = 0,
 (0 : Nat) = 0,
 (0 : Nat) = 0,
 at_ = at_,
 s0.hi = s0.hi,
 s0.now = s0.now,
 s0.high = s0.high,
 (0 : Int) = 0,
 s0.X.st = s0.X.st,
 s0.X.L.c = s0.X.L.c,
 s0.X.L.k = s0.X.L.k,
 s0.X.L.a = s0.X.L.a,
 s0.X.L.f = s0.X.L.f,
 s0.X.L.w = s0.X.L.w,
 s0.X.L.i = s0.X.L.i,
 s0.X.L.d = s0.X.L.d,
 ∀ (k : List Int), s0.X.M k = s0.X.M k,
 sl = sl,
 ge = ge,
 mk = mk,
 b = b,
 ep = ep,
 er = er,
 true = true,
 n ≤ n,
 g = g ∧ plainSh [CK.int IntKind.u8] = true ∨ ∀ (i : Nat), i < n → rowOb [CK.int IntKind.u8] 0 (g i) (g i)]) := by kernel_rfl
attribute [local irreducible] mget memPut
theorem hd_lp (n : Nat) (g : Nat → Nat → AV) (sl ge : Int) (mk : Bool) (b ep er at_ : Int) (s0 : HS) (hn : n ≤ 100) (hst : ∀ k, k < n → (hdV (hdN g s0 k).X (hdW (hdN g s0 k).now (avInt (g (0 + k) 0))) = (hdN g s0 k).hi ↔ hdW (hdN g s0 k).now (avInt (g (0 + k) 0)) = (hdN g s0 k).high)) : hdLP n g sl ge mk b ep er at_ s0 (hdN g s0 n) := by
  refine loop_rule EMo3_ok (I := Nat) (fun i => hdT n g sl ge mk b ep er at_ i (hdN g s0 i)) (fun i => n - i) (fun i => i ≤ n) ?_ (fun ii hi => ?_)
  ·
    refine ⟨0, [], _, Nat.zero_le _, hdi_1 .., (ob_cons rfl (ob_cons rfl (ob_cons rfl (ob_cons rfl (ob_cons rfl (ob_cons rfl (ob_cons rfl (ob_cons rfl (ob_cons rfl (ob_cons rfl (ob_cons rfl (ob_cons rfl (ob_cons rfl (ob_cons rfl (ob_cons rfl (ob_cons rfl (ob_cons rfl (ob_cons rfl (ob_cons rfl (ob_cons rfl (ob_cons rfl (ob_cons rfl (ob_cons (fun _ => rfl) (ob_cons rfl (ob_cons rfl (ob_cons rfl (ob_cons rfl (ob_cons rfl (ob_cons rfl (ob_cons rfl (ob_cons (Nat.le_refl _) (ob_cons (.inl ⟨rfl, rfl⟩) ob_nil))))))))))))))))))))))))))))))))⟩
  have hi : ii ≤ n := hi
  by_cases hin : ii < n
  · have h1 : decide (Int.ofNat ii < Int.ofNat n) = true := decide_eq_true (by simp; omega)
    have h2 : IntKind.i64.wrap (Int.ofNat ii + 1) = Int.ofNat (ii + 1) := wrap_nat64 _ (by simp; omega) (by simp; omega)
    have h3 : (ii.blt n && decide (0 ≤ Int.ofNat ii)) = true := by rw [Bool.and_eq_true]; exact ⟨by simpa [Nat.blt_eq] using hin, decide_eq_true (by simp)⟩
    have h4 : (0 + ii).blt n = true := by rw [Nat.zero_add]; simpa [Nat.blt_eq] using hin
    have hs := hst ii hin
    have hy := hdN_succ g s0 ii
    unfold hdS at hy
    by_cases c1 : (IntKind.u8.wrap ((avInt (g (0 + ii) 0)).tdiv 3)).tmod 2 = 1
    · have k1 : ((IntKind.u8.wrap ((avInt (g (0 + ii) 0)).tdiv 3)).tmod 2 == 1) = true := beq_iff_eq.2 c1
      rw [if_pos c1] at hy
      refine round_norm (s0 := hdU n g sl ge mk b ep er at_ s0) (T := fun i => hdT n g sl ge mk b ep er at_ i (hdN g s0 i)) (i := ii) (ii + 1) (hdc_1 n g sl ge mk b ep er at_ ii s0 (hdN g s0 ii) (hdN g s0 (ii + 1))) (ob_cons rfl (ob_cons rfl (ob_cons rfl (ob_cons rfl (ob_cons rfl (ob_cons rfl (ob_cons rfl (ob_cons rfl (ob_cons rfl (ob_cons rfl (ob_cons ?_ (ob_cons ?_ (ob_cons ?_ (ob_cons ?_ (ob_cons ?_ (ob_cons ?_ (ob_cons ?_ (ob_cons ?_ (ob_cons ?_ (ob_cons ?_ (ob_cons ?_ (ob_cons ?_ (ob_cons ?_ (ob_cons rfl (ob_cons rfl (ob_cons rfl (ob_cons rfl (ob_cons rfl (ob_cons rfl (ob_cons rfl (ob_cons (Nat.le_refl _) (ob_cons (.inl ⟨rfl, rfl⟩) (ob_cons ?_ (ob_cons ?_ (ob_cons ?_ (ob_cons (by decide) (ob_cons ?_ (ob_cons ?_ (ob_cons ?_ ob_nil))))))))))))))))))))))))))))))))))))))) (by show ii + 1 ≤ n; omega) (by show n - (ii + 1) < n - ii; omega)
      · (rw [hy]; rfl)
      · (rw [hy]; rfl)
      · (rw [hy]; rfl)
      · with_reducible assumption
      · (rw [hy]; rfl)
      · (rw [hy]; rfl)
      · (rw [hy]; rfl)
      · (rw [hy]; rfl)
      · (rw [hy]; rfl)
      · (rw [hy]; rfl)
      · (rw [hy]; rfl)
      · (rw [hy]; rfl)
      · (rw [hy]; exact fun _ => rfl)
      · with_reducible assumption
      · with_reducible assumption
      · with_reducible assumption
      · with_reducible assumption
      · with_reducible assumption
      · with_reducible assumption
    · have k1 : ((IntKind.u8.wrap ((avInt (g (0 + ii) 0)).tdiv 3)).tmod 2 == 1) = false := beq_eq_false_iff_ne.2 c1
      rw [if_neg c1] at hy
      by_cases c2 : hdV (hdN g s0 ii).X (hdW (hdN g s0 ii).now (avInt (g (0 + ii) 0))) = (hdN g s0 ii).hi
      · rw [if_pos c2] at hy
        have hx1 : (hdV (hdN g s0 ii).X (hdW (hdN g s0 ii).now (avInt (g (0 + ii) 0))) == (hdN g s0 ii).hi) = true := beq_iff_eq.2 c2
        have hx2 : ((true == (hdW (hdN g s0 ii).now (avInt (g (0 + ii) 0)) == (hdN g s0 ii).high)) == false) = false := by rw [beq_iff_eq.2 (hs.1 c2)]; rfl
        refine round_norm (s0 := hdU n g sl ge mk b ep er at_ s0) (T := fun i => hdT n g sl ge mk b ep er at_ i (hdN g s0 i)) (i := ii) (ii + 1) (hdy_1 n g sl ge mk b ep er at_ ii s0 (hdN g s0 ii) (hdN g s0 (ii + 1))) (ob_cons rfl (ob_cons rfl (ob_cons rfl (ob_cons rfl (ob_cons rfl (ob_cons rfl (ob_cons rfl (ob_cons rfl (ob_cons rfl (ob_cons rfl (ob_cons ?_ (ob_cons ?_ (ob_cons ?_ (ob_cons ?_ (ob_cons ?_ (ob_cons ?_ (ob_cons ?_ (ob_cons ?_ (ob_cons ?_ (ob_cons ?_ (ob_cons ?_ (ob_cons ?_ (ob_cons ?_ (ob_cons rfl (ob_cons rfl (ob_cons rfl (ob_cons rfl (ob_cons rfl (ob_cons rfl (ob_cons rfl (ob_cons (Nat.le_refl _) (ob_cons (.inl ⟨rfl, rfl⟩) (ob_cons ?_ (ob_cons ?_ (ob_cons ?_ (ob_cons ?_ (ob_cons ?_ (ob_cons (by decide) (ob_cons ?_ (ob_cons ?_ (ob_cons ?_ ob_nil))))))))))))))))))))))))))))))))))))))))) (by show ii + 1 ≤ n; omega) (by show n - (ii + 1) < n - ii; omega)
        · (rw [hy]; rfl)
        · (rw [hy]; rfl)
        · (rw [hy]; rfl)
        · with_reducible assumption
        · (rw [hy]; rfl)
        · (rw [hy]; rfl)
        · (rw [hy]; rfl)
        · (rw [hy]; rfl)
        · (rw [hy]; rfl)
        · (rw [hy]; rfl)
        · (rw [hy]; rfl)
        · (rw [hy]; rfl)
        · (rw [hy]; exact fun _ => rfl)
        · exact hx2
        · exact hx1
        · with_reducible assumption
        · with_reducible assumption
        · with_reducible assumption
        · with_reducible assumption
        · with_reducible assumption
        · with_reducible assumption
      · rw [if_neg c2] at hy
        have hx1 : (hdV (hdN g s0 ii).X (hdW (hdN g s0 ii).now (avInt (g (0 + ii) 0))) == (hdN g s0 ii).hi) = false := beq_eq_false_iff_ne.2 c2
        have hx2 : ((false == (hdW (hdN g s0 ii).now (avInt (g (0 + ii) 0)) == (hdN g s0 ii).high)) == false) = false := by rw [beq_eq_false_iff_ne.2 (fun e => c2 (hs.2 e))]; rfl
        refine round_norm (s0 := hdU n g sl ge mk b ep er at_ s0) (T := fun i => hdT n g sl ge mk b ep er at_ i (hdN g s0 i)) (i := ii) (ii + 1) (hdm_1 n g sl ge mk b ep er at_ ii s0 (hdN g s0 ii) (hdN g s0 (ii + 1))) (ob_cons rfl (ob_cons rfl (ob_cons rfl (ob_cons rfl (ob_cons rfl (ob_cons rfl (ob_cons rfl (ob_cons rfl (ob_cons rfl (ob_cons rfl (ob_cons ?_ (ob_cons ?_ (ob_cons ?_ (ob_cons ?_ (ob_cons ?_ (ob_cons ?_ (ob_cons ?_ (ob_cons ?_ (ob_cons ?_ (ob_cons ?_ (ob_cons ?_ (ob_cons ?_ (ob_cons ?_ (ob_cons rfl (ob_cons rfl (ob_cons rfl (ob_cons rfl (ob_cons rfl (ob_cons rfl (ob_cons rfl (ob_cons (Nat.le_refl _) (ob_cons (.inl ⟨rfl, rfl⟩) (ob_cons (by decide) (ob_cons ?_ (ob_cons ?_ (ob_cons ?_ (ob_cons ?_ (ob_cons ?_ (ob_cons (by decide) (ob_cons ?_ (ob_cons ?_ (ob_cons ?_ ob_nil)))))))))))))))))))))))))))))))))))))))))) (by show ii + 1 ≤ n; omega) (by show n - (ii + 1) < n - ii; omega)
        · (rw [hy]; rfl)
        · (rw [hy]; rfl)
        · (rw [hy]; rfl)
        · with_reducible assumption
        · (rw [hy]; rfl)
        · (rw [hy]; rfl)
        · (rw [hy]; rfl)
        · (rw [hy]; rfl)
        · (rw [hy]; rfl)
        · (rw [hy]; rfl)
        · (rw [hy]; rfl)
        · (rw [hy]; rfl)
        · (rw [hy]; exact fun _ => rfl)
        · exact hx2
        · exact hx1
        · with_reducible assumption
        · with_reducible assumption
        · with_reducible assumption
        · with_reducible assumption
        · with_reducible assumption
        · with_reducible assumption
  · obtain rfl : n = ii := by omega
    have h1 : decide (Int.ofNat n < Int.ofNat n) = false := decide_eq_false (by simp)
    refine round_exit (s0 := hdU n g sl ge mk b ep er at_ s0) (T := fun i => hdT n g sl ge mk b ep er at_ i (hdN g s0 i)) (i := n) (hdx_1 n g sl ge mk b ep er at_ n s0 (hdN g s0 n) (hdN g s0 n)) (by simp) (ob_cons rfl (ob_cons rfl (ob_cons rfl (ob_cons rfl (ob_cons rfl (ob_cons rfl (ob_cons rfl (ob_cons rfl (ob_cons rfl (ob_cons rfl (ob_cons rfl (ob_cons rfl (ob_cons rfl (ob_cons rfl (ob_cons rfl (ob_cons rfl (ob_cons (fun _ => rfl) (ob_cons rfl (ob_cons rfl (ob_cons rfl (ob_cons rfl (ob_cons rfl (ob_cons rfl (ob_cons rfl (ob_cons (Nat.le_refl _) (ob_cons (.inl ⟨rfl, rfl⟩) (ob_cons ?_ ob_nil)))))))))))))))))))))))))))
    · with_reducible assumption

end Go.Proofs.Ytmlfmmnnbdlabaa
