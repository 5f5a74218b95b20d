/-
  Numbers: masks, shifts, or.
-/
import Derived.Test.YtofopjkjmhepeaaDoorEvAux
set_option linter.unusedSimpArgs false
set_option linter.unusedVariables false
namespace Go.Ev
theorem and_mask (k : Nat) (hk : k ≤ 64) {x : Int} (h : 0 ≤ x) (h1 : x < 18446744073709551616) : ((BitVec.ofInt 64 x &&& BitVec.ofInt 64 (2 ^ k - 1)).toNat : Int) = x % 2 ^ k := by
  have hx : (x % ((2 ^ 64 : Nat) : Int)).toNat = x.toNat := by
    have : x % ((2 ^ 64 : Nat) : Int) = x := Int.emod_eq_of_lt h (by simpa using h1)
    rw [this]
  have hp : (2 : Nat) ^ k ≤ 2 ^ 64 := Nat.pow_le_pow_right (by decide) hk
  have hp0 : 0 < (2 : Nat) ^ k := Nat.pow_pos (by decide)
  have e2 : ((2 : Int) ^ k - 1) = ((2 ^ k - 1 : Nat) : Int) := by
    rw [Int.ofNat_sub hp0]; simp
  have hm : (((2 : Int) ^ k - 1) % ((2 ^ 64 : Nat) : Int)).toNat = 2 ^ k - 1 := by
    rw [e2, Int.emod_eq_of_lt (by omega) (by omega)]
    simp
  rw [BitVec.toNat_and, BitVec.toNat_ofInt, BitVec.toNat_ofInt, hx, hm, Nat.and_two_pow_sub_one_eq_mod]
  have : (x.toNat : Int) = x := Int.toNat_of_nonneg h
  rw [Int.natCast_emod, this]
  simp
theorem or_shift (k : Nat) (hk : k ≤ 64) {x y : Int} (hx : 0 ≤ x) (hx1 : x < 2 ^ k) (hy : 0 ≤ y) (hy1 : y * 2 ^ k < 18446744073709551616) : ((BitVec.ofInt 64 x ||| BitVec.ofInt 64 (y * 2 ^ k)).toNat : Int) = x + y * 2 ^ k := by
  have hp : (2 : Int) ^ k ≤ 18446744073709551616 := by
    have := Nat.pow_le_pow_right (n := 2) (by decide) hk
    have h2 : ((2 ^ k : Nat) : Int) ≤ ((2 ^ 64 : Nat) : Int) := by exact_mod_cast this
    simpa using h2
  have e1 : (x % ((2 ^ 64 : Nat) : Int)).toNat = x.toNat := by
    have : x % ((2 ^ 64 : Nat) : Int) = x := Int.emod_eq_of_lt hx (by simp; omega)
    rw [this]
  have hpos : (0 : Int) ≤ y * 2 ^ k := Int.mul_nonneg hy (Int.pow_nonneg (by decide))
  have e2 : ((y * 2 ^ k) % ((2 ^ 64 : Nat) : Int)).toNat = y.toNat * 2 ^ k := by
    have : (y * 2 ^ k) % ((2 ^ 64 : Nat) : Int) = y * 2 ^ k := Int.emod_eq_of_lt hpos (by simpa using hy1)
    rw [this]
    obtain ⟨n, rfl⟩ := Int.eq_ofNat_of_zero_le hy
    simp only [Int.ofNat_eq_natCast, Int.toNat_natCast]
    have : ((n : Int) * 2 ^ k) = ((n * 2 ^ k : Nat) : Int) := by simp
    rw [this, Int.toNat_natCast]
  have hxn : x.toNat < 2 ^ k := by
    have : ((x.toNat : Nat) : Int) < ((2 ^ k : Nat) : Int) := by rw [Int.toNat_of_nonneg hx]; simpa using hx1
    exact_mod_cast this
  rw [BitVec.toNat_or, BitVec.toNat_ofInt, BitVec.toNat_ofInt, e1, e2, Nat.or_comm, Nat.mul_comm, ← Nat.two_pow_add_eq_or_of_lt hxn]
  have h1 : (x.toNat : Int) = x := Int.toNat_of_nonneg hx
  have h2 : (y.toNat : Int) = y := Int.toNat_of_nonneg hy
  simp only [Int.natCast_add, Int.natCast_mul, Int.natCast_pow, h1, h2]
  rw [Int.add_comm, Int.mul_comm]; rfl
theorem shr_div (k : Nat) (hk : k ≤ 64) {x : Int} : x.fdiv (2 ^ (min (k : Int).toNat 64)) = x / 2 ^ k := by
  have : min (k : Int).toNat 64 = k := by simp; exact Nat.min_eq_left hk
  rw [this]
  exact Int.fdiv_eq_ediv_of_nonneg x (Int.pow_nonneg (by decide))
end Go.Ev
