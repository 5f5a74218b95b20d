/-
  The document's words: Put: definitions.
-/
import Derived.Test.YtmndhjodbnojdaaDoorJR1
import Derived.Test.YtmndhjodbnojdaaDoorJR2Def
set_option linter.unusedSimpArgs false
set_option linter.unusedVariables false
namespace Go.Proofs.YtmndhjodbnojdaaDoor
open Go.Ev
theorem ent0 {a b : Int} (ab : a ≤ b) (h : b ≤ 63) : (2 : Int) ^ a.toNat = IntKind.u64.wrap (2 ^ a.toNat) := by
  have := p2_63 (a := a.toNat) (by omega)
  have h0 := p2pos a.toNat
  exact (u64w (by omega) (by omega)).symm
theorem one_succ {k : Nat} (h : k ≤ 63) : IntKind.u64.wrap (IntKind.u64.wrap (2 ^ k) * 2) = IntKind.u64.wrap (2 ^ (k + 1)) := by
  have := p2_63 h
  have h0 := p2pos k
  rw [u64w (x := 2 ^ k) (by omega) (by omega), Int.pow_succ]
theorem put_one {w x : Int} {a n : Nat} (w0 : 0 ≤ w) (w1 : w < 2 ^ a) (x0 : 0 ≤ x) (hk : a + n ≤ 63) (h : x / 2 ^ n % 2 = 1) : IntKind.u64.wrap (w + x % 2 ^ n * 2 ^ a + IntKind.u64.wrap (2 ^ (a + n))) = w + x % 2 ^ (n + 1) * 2 ^ a := by
  have e := put_succ x0 n
  rw [h, Int.one_mul] at e
  have hp : (2 : Int) ^ (a + n) = 2 ^ n * 2 ^ a := by rw [Int.pow_add, Int.mul_comm]
  have hb := p2_63 (a := a + n) hk
  have h0 := p2pos (a + n)
  have hm := Int.emod_nonneg x (b := 2 ^ n) (by have := p2pos n; omega)
  have hm1 := Int.emod_lt_of_pos x (p2pos n)
  rw [u64w (x := 2 ^ (a + n)) (by omega) (by omega), e, hp]
  have ha := p2pos a
  have hmul : x % 2 ^ n * 2 ^ a + 2 ^ a ≤ 2 ^ n * 2 ^ a := by
    have : (x % 2 ^ n + 1) * 2 ^ a ≤ 2 ^ n * 2 ^ a := Int.mul_le_mul_of_nonneg_right (by omega) (Int.le_of_lt ha)
    rwa [Int.add_mul, Int.one_mul] at this
  have hnn : 0 ≤ x % 2 ^ n * 2 ^ a := Int.mul_nonneg hm (Int.le_of_lt ha)
  rw [hp] at hb h0
  rw [u64w (by omega) (by omega), Int.add_mul]
  omega
theorem put_zero {w x : Int} {a n : Nat} (x0 : 0 ≤ x) (h : x / 2 ^ n % 2 ≠ 1) : w + x % 2 ^ n * 2 ^ a = w + x % 2 ^ (n + 1) * 2 ^ a := by
  have e := put_succ x0 n
  have : x / 2 ^ n % 2 = 0 := by omega
  rw [this, Int.zero_mul, Int.add_zero] at e
  rw [e]

noncomputable def rp1U (w x a b : Int) : St := ⟨[.sym .u64 w, .sym .u64 x, .sym .i64 a, .sym .i64 b, .top, .top, .top, .top, .top, .int .u64 1, .int .i64 0] ++ List.replicate 25 .top, ⟨[], 1, gnm 0, [], [], [], false⟩⟩
noncomputable def rp1T (w x a b : Int) (i : Nat) : St := ⟨[.sym .u64 w, .sym .u64 x, .sym .i64 a, .sym .i64 b, .top, .top, .top, .top, .top, .sym .u64 (p2 i), .sym .i64 (Int.ofNat i)] ++ List.replicate 25 .top, ⟨[], 1, gnm 0, [], [], [], false⟩⟩
noncomputable def rp1X (w x a b : Int) (i : Nat) : St := ⟨[.sym .u64 w, .sym .u64 x, .sym .i64 a, .sym .i64 b, .top, .top, .top, .top, .top, .sym .u64 (p2 i)] ++ List.replicate 26 .top, ⟨[], 1, gnm 0, [], [], [], false⟩⟩
noncomputable abbrev rp1L : Code := loopAt Tryd.prog 173 0
noncomputable def rp1LP (w x a b : Int) : Prop := LoopHolds Tryd.prog rp1L (rp1U w x a b) (.exit 0) (rp1X w x a b a.toNat)
noncomputable def rp2U (w x a b : Int) : St := ⟨[.sym .u64 w, .sym .u64 x, .sym .i64 a, .sym .i64 b, .top, .top, .top, .top, .top, .sym .u64 (p2 a.toNat), .top, .int .i64 0] ++ List.replicate 24 .top, ⟨[], 1, gnm 0, [], [], [], false⟩⟩
noncomputable def rp2T (w x a b : Int) (i : Nat) : St := ⟨[.sym .u64 (w + x % 2 ^ i * 2 ^ a.toNat), .sym .u64 x, .sym .i64 a, .sym .i64 b, .top, .top, .top, .top, .top, .sym .u64 (IntKind.u64.wrap (p2 (a.toNat + i))), .top, .sym .i64 (Int.ofNat i)] ++ List.replicate 24 .top, ⟨[], 1, gnm 0, [], [], [], false⟩⟩
noncomputable def rp2X (w x a b : Int) (i : Nat) : St := ⟨[.sym .u64 (w + x % 2 ^ i * 2 ^ a.toNat)] ++ List.replicate 35 .top, ⟨[], 1, gnm 0, [], [], [], false⟩⟩
noncomputable abbrev rp2L : Code := loopAt Tryd.prog 173 1
noncomputable def rp2LP (w x a b : Int) : Prop := LoopHolds Tryd.prog rp2L (rp2U w x a b) (.exit 2) (rp2X w x a b ((b + 1 - a).toNat))
noncomputable def rputH (w x a b : Int) : List (Nat × AO) := []
noncomputable def rputR (w x a b : Int) : LR := ⟨0, .sym .u64 (putI w x a b), [], 0, [], [0 ≤ w, w < 2 ^ a.toNat, 0 ≤ x, x < 18446744073709551616, 0 ≤ a, a ≤ b, b ≤ 63]⟩
end Go.Proofs.YtmndhjodbnojdaaDoor
