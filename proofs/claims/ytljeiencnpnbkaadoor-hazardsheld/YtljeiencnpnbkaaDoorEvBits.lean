/-
  EvBits and what follows it.
-/
import Derived.Test.YtljeiencnpnbkaaDoorEvLoc2
/-
  Numbers: masks, shifts, or.
-/
set_option linter.unusedSimpArgs false
set_option linter.unusedVariables false
namespace Go.Ev
theorem and_mask (k : Nat) (hk : k ≤ 64) {x : Int} (h : 0 ≤ x) (h1 : x < 18446744073709551616) : ((BitVec.ofInt 64 x &&& BitVec.ofInt 64 (2 ^ k - 1)).toNat : Int) = x % 2 ^ k := by
  have hx : (x % ((2 ^ 64 : Nat) : Int)).toNat = x.toNat := by
    have : x % ((2 ^ 64 : Nat) : Int) = x := Int.emod_eq_of_lt h (by simpa using h1)
    rw [this]
  have hp : (2 : Nat) ^ k ≤ 2 ^ 64 := Nat.pow_le_pow_right (by decide) hk
  have hp0 : 0 < (2 : Nat) ^ k := Nat.pow_pos (by decide)
  have e2 : ((2 : Int) ^ k - 1) = ((2 ^ k - 1 : Nat) : Int) := by
    rw [Int.ofNat_sub hp0]; simp
  have hm : (((2 : Int) ^ k - 1) % ((2 ^ 64 : Nat) : Int)).toNat = 2 ^ k - 1 := by
    rw [e2, Int.emod_eq_of_lt (by omega) (by omega)]
    simp
  rw [BitVec.toNat_and, BitVec.toNat_ofInt, BitVec.toNat_ofInt, hx, hm, Nat.and_two_pow_sub_one_eq_mod]
  have : (x.toNat : Int) = x := Int.toNat_of_nonneg h
  rw [Int.natCast_emod, this]
  simp
theorem or_shift (k : Nat) (hk : k ≤ 64) {x y : Int} (hx : 0 ≤ x) (hx1 : x < 2 ^ k) (hy : 0 ≤ y) (hy1 : y * 2 ^ k < 18446744073709551616) : ((BitVec.ofInt 64 x ||| BitVec.ofInt 64 (y * 2 ^ k)).toNat : Int) = x + y * 2 ^ k := by
  have hp : (2 : Int) ^ k ≤ 18446744073709551616 := by
    have := Nat.pow_le_pow_right (n := 2) (by decide) hk
    have h2 : ((2 ^ k : Nat) : Int) ≤ ((2 ^ 64 : Nat) : Int) := by exact_mod_cast this
    simpa using h2
  have e1 : (x % ((2 ^ 64 : Nat) : Int)).toNat = x.toNat := by
    have : x % ((2 ^ 64 : Nat) : Int) = x := Int.emod_eq_of_lt hx (by simp; omega)
    rw [this]
  have hpos : (0 : Int) ≤ y * 2 ^ k := Int.mul_nonneg hy (Int.pow_nonneg (by decide))
  have e2 : ((y * 2 ^ k) % ((2 ^ 64 : Nat) : Int)).toNat = y.toNat * 2 ^ k := by
    have : (y * 2 ^ k) % ((2 ^ 64 : Nat) : Int) = y * 2 ^ k := Int.emod_eq_of_lt hpos (by simpa using hy1)
    rw [this]
    obtain ⟨n, rfl⟩ := Int.eq_ofNat_of_zero_le hy
    simp only [Int.ofNat_eq_natCast, Int.toNat_natCast]
    have : ((n : Int) * 2 ^ k) = ((n * 2 ^ k : Nat) : Int) := by simp
    rw [this, Int.toNat_natCast]
  have hxn : x.toNat < 2 ^ k := by
    have : ((x.toNat : Nat) : Int) < ((2 ^ k : Nat) : Int) := by rw [Int.toNat_of_nonneg hx]; simpa using hx1
    exact_mod_cast this
  rw [BitVec.toNat_or, BitVec.toNat_ofInt, BitVec.toNat_ofInt, e1, e2, Nat.or_comm, Nat.mul_comm, ← Nat.two_pow_add_eq_or_of_lt hxn]
  have h1 : (x.toNat : Int) = x := Int.toNat_of_nonneg hx
  have h2 : (y.toNat : Int) = y := Int.toNat_of_nonneg hy
  simp only [Int.natCast_add, Int.natCast_mul, Int.natCast_pow, h1, h2]
  rw [Int.add_comm, Int.mul_comm]; rfl
theorem shr_div (k : Nat) (hk : k ≤ 64) {x : Int} : x.fdiv (2 ^ (min (k : Int).toNat 64)) = x / 2 ^ k := by
  have : min (k : Int).toNat 64 = k := by simp; exact Nat.min_eq_left hk
  rw [this]
  exact Int.fdiv_eq_ediv_of_nonneg x (Int.pow_nonneg (by decide))
theorem and_1 {x : Int} (h : 0 ≤ x) (h1 : x < 18446744073709551616) : ((BitVec.ofInt 64 x &&& BitVec.ofInt 64 1).toNat : Int) = x % 2 := by simpa using and_mask 1 (by decide) h h1
theorem and_7 {x : Int} (h : 0 ≤ x) (h1 : x < 18446744073709551616) : ((BitVec.ofInt 64 x &&& BitVec.ofInt 64 7).toNat : Int) = x % 8 := by simpa using and_mask 3 (by decide) h h1
theorem and_16 {x : Int} (h : 0 ≤ x) (h1 : x < 18446744073709551616) : ((BitVec.ofInt 64 x &&& BitVec.ofInt 64 65535).toNat : Int) = x % 65536 := by simpa using and_mask 16 (by decide) h h1
theorem and_32 {x : Int} (h : 0 ≤ x) (h1 : x < 18446744073709551616) : ((BitVec.ofInt 64 x &&& BitVec.ofInt 64 4294967295).toNat : Int) = x % 4294967296 := by simpa using and_mask 32 (by decide) h h1
theorem and_48 {x : Int} (h : 0 ≤ x) (h1 : x < 18446744073709551616) : ((BitVec.ofInt 64 x &&& BitVec.ofInt 64 281474976710655).toNat : Int) = x % 281474976710656 := by simpa using and_mask 48 (by decide) h h1
theorem or_8 {x y : Int} (hx : 0 ≤ x) (hx1 : x < 8) (hy : 0 ≤ y) (hy1 : y < 1000000000000000000) : ((BitVec.ofInt 64 x ||| BitVec.ofInt 64 (y * 8)).toNat : Int) = x + y * 8 := by simpa using or_shift 3 (by decide) hx (by simpa using hx1) hy (by simp; omega)
theorem or_16 {x y : Int} (hx : 0 ≤ x) (hx1 : x < 65536) (hy : 0 ≤ y) (hy1 : y < 281474976710656) : ((BitVec.ofInt 64 x ||| BitVec.ofInt 64 (y * 65536)).toNat : Int) = x + y * 65536 := by simpa using or_shift 16 (by decide) hx (by simpa using hx1) hy (by simp; omega)
theorem or_0 {y : Int} (hy : 0 ≤ y) (hy1 : y < 18446744073709551616) : ((BitVec.ofInt 64 0 ||| BitVec.ofInt 64 y).toNat : Int) = y := by
  have := or_shift 0 (x := 0) (y := y) (by decide) (by decide) (by decide) hy (by simpa using hy1)
  simpa using this
theorem u16m (x : Int) : IntKind.u16.wrap x = x % 65536 := by
  simp [IntKind.wrap, IntKind.signed, IntKind.bits]
theorem u32m (x : Int) : IntKind.u32.wrap x = x % 4294967296 := by
  simp [IntKind.wrap, IntKind.signed, IntKind.bits]
/-! words -/
def hSlot (w : Int) : Int := if 1 ≤ w % 65536 ∧ w % 65536 ≤ 256 then w % 65536 - 1 else -1
def hTag (w : Int) : Int := w / 65536
def hHead (s t : Int) : Int := (if 0 ≤ s ∧ s < 256 then s + 1 else 0) + t % 281474976710656 * 65536
def hdrS (w : Int) : Int := if 4 < w % 8 then 4 else w % 8
def hdrG (w : Int) : Int := w / 8 % 4294967296
def hdr (s g : Int) : Int := (if 4 < s then 4 else s) + g * 8
theorem slot_raw {w : Int} (h0 : 0 ≤ w) (h1 : w < 18446744073709551616) : IntKind.i64.wrap (IntKind.i64.wrap (IntKind.u16.wrap (IntKind.u64.wrap ↑(BitVec.ofInt 64 (w.fdiv 1) &&& BitVec.ofInt 64 65535).toNat)) - 1) = w % 65536 - 1 := by
  rw [Int.fdiv_eq_ediv_of_nonneg w (by decide), Int.ediv_one, and_16 h0 h1, u64w (by omega) (by omega), u16m, i64w (x := w % 65536 % 65536) (by omega) (by omega), i64w (by omega) (by omega)]
  omega
theorem tag_raw {w : Int} (h0 : 0 ≤ w) (h1 : w < 18446744073709551616) : IntKind.u64.wrap ↑(BitVec.ofInt 64 (w.fdiv 65536) &&& BitVec.ofInt 64 281474976710655).toNat = hTag w := by
  rw [Int.fdiv_eq_ediv_of_nonneg w (by decide), and_48 (by omega) (by omega), u64w (by omega) (by omega)]
  unfold hTag; omega
theorem head_raw {a t : Int} (a0 : 0 ≤ a) (a1 : a ≤ 256) (h0 : 0 ≤ t) (h1 : t < 18446744073709551616) : IntKind.u64.wrap ↑(BitVec.ofInt 64 a ||| BitVec.ofInt 64 (IntKind.u64.wrap (IntKind.u64.wrap ↑(BitVec.ofInt 64 t &&& BitVec.ofInt 64 281474976710655).toNat * 65536))).toNat = a + t % 281474976710656 * 65536 := by
  rw [and_48 h0 h1, u64w (x := t % 281474976710656) (by omega) (by omega), u64w (x := t % 281474976710656 * 65536) (by omega) (by omega), or_16 a0 (by omega) (by omega) (by omega), u64w (by omega) (by omega)]
theorem hdrS_raw {w : Int} (h0 : 0 ≤ w) (h1 : w < 18446744073709551616) : IntKind.u8.wrap (IntKind.u64.wrap ↑(BitVec.ofInt 64 (w.fdiv 1) &&& BitVec.ofInt 64 7).toNat) = w % 8 := by
  rw [Int.fdiv_eq_ediv_of_nonneg w (by decide), Int.ediv_one, and_7 h0 h1, u64w (by omega) (by omega), u8m]; omega
theorem hdrG_raw {w : Int} (h0 : 0 ≤ w) (h1 : w < 18446744073709551616) : IntKind.u32.wrap (IntKind.u64.wrap ↑(BitVec.ofInt 64 (w.fdiv 8) &&& BitVec.ofInt 64 4294967295).toNat) = hdrG w := by
  rw [Int.fdiv_eq_ediv_of_nonneg w (by decide), and_32 (by omega) (by omega), u64w (by omega) (by omega), u32m]
  unfold hdrG; omega
theorem hdr_raw {s t : Int} (s0 : 0 ≤ s) (s1 : s < 256) (h0 : 0 ≤ t) (h1 : t < 4294967296) : IntKind.u64.wrap ↑(BitVec.ofInt 64 (IntKind.u64.wrap ↑(BitVec.ofInt 64 0 ||| BitVec.ofInt 64 (IntKind.u64.wrap (IntKind.u64.wrap ↑(BitVec.ofInt 64 (IntKind.u64.wrap (if 4 < s then 4 else s)) &&& BitVec.ofInt 64 7).toNat * 1))).toNat) ||| BitVec.ofInt 64 (IntKind.u64.wrap (IntKind.u64.wrap ↑(BitVec.ofInt 64 (IntKind.u64.wrap t) &&& BitVec.ofInt 64 4294967295).toNat * 8))).toNat = hdr s t := by
  have hs : 0 ≤ (if 4 < s then 4 else s) ∧ (if 4 < s then 4 else s) ≤ 4 := by split <;> omega
  generalize hq : (if 4 < s then (4 : Int) else s) = q at *
  rw [u64w (x := q) (by omega) (by omega), u64w (x := t) h0 (by omega), and_7 hs.1 (by omega), and_32 h0 (by omega), Int.mul_one,
    u64w (x := q % 8) (by omega) (by omega), u64w (x := q % 8) (by omega) (by omega), or_0 (by omega) (by omega), u64w (x := q % 8) (by omega) (by omega),
    u64w (x := t % 4294967296) (by omega) (by omega), u64w (x := t % 4294967296 * 8) (by omega) (by omega), or_8 (by omega) (by omega) (by omega) (by omega), u64w (by omega) (by omega)]
  unfold hdr; rw [hq]; omega
end Go.Ev

/-
  Words bit by bit (the document's layer 1): plain facts.
-/
set_option linter.unusedSimpArgs false
set_option linter.unusedVariables false
namespace Go.Ev
def p2 (n : Nat) : Int := 2 ^ n
theorem p2pos (n : Nat) : (0 : Int) < 2 ^ n := Int.pow_pos (by decide)
theorem div_succ (w : Int) (k : Nat) : w / 2 ^ k / 2 = w / 2 ^ (k + 1) := by
  rw [Int.ediv_ediv_of_nonneg (Int.le_of_lt (p2pos k)), Int.pow_succ]
theorem emod_mul {x : Int} (h : 0 ≤ x) (a b : Nat) : x % ((a * b : Nat) : Int) = x % (a : Int) + (a : Int) * (x / (a : Int) % (b : Int)) := by
  obtain ⟨n, rfl⟩ := Int.eq_ofNat_of_zero_le h
  exact_mod_cast (Nat.mod_mul (x := n) (a := a) (b := b))
theorem fld_succ {w : Int} (h : 0 ≤ w) (a n : Nat) : 2 * (w / 2 ^ (a + 1) % 2 ^ n) + w / 2 ^ a % 2 = w / 2 ^ a % 2 ^ (n + 1) := by
  have h0 : 0 ≤ w / 2 ^ a := Int.ediv_nonneg h (Int.le_of_lt (p2pos a))
  have e := emod_mul h0 2 (2 ^ n)
  rw [← div_succ]
  have e2 : ((2 * 2 ^ n : Nat) : Int) = 2 ^ (n + 1) := by rw [Int.pow_succ]; simp [Int.mul_comm]
  rw [e2] at e
  rw [e]
  simp
  omega
theorem put_succ {x : Int} (h : 0 ≤ x) (n : Nat) : x % 2 ^ (n + 1) = x % 2 ^ n + x / 2 ^ n % 2 * 2 ^ n := by
  have e := emod_mul h (2 ^ n) 2
  have e2 : ((2 ^ n * 2 : Nat) : Int) = 2 ^ (n + 1) := by rw [Int.pow_succ]; simp
  rw [e2] at e
  rw [e]
  simp [Int.mul_comm]
/-- A bit, a field of a word. -/
def bitI (w i : Int) : Int := w / 2 ^ i.toNat % 2
def fldI (w a b : Int) : Int := w / 2 ^ a.toNat % 2 ^ (b + 1 - a).toNat
def putI (w x a b : Int) : Int := w + x % 2 ^ (b + 1 - a).toNat * 2 ^ a.toNat
theorem div_r {w : Int} (h : 0 ≤ w) (h1 : w < 18446744073709551616) (k : Nat) : 0 ≤ w / 2 ^ k ∧ w / 2 ^ k < 18446744073709551616 := by
  refine ⟨Int.ediv_nonneg h (Int.le_of_lt (p2pos k)), ?_⟩
  have := Int.ediv_le_self (a := w) (2 ^ k) h
  omega
theorem p2mono {a b : Nat} (h : a ≤ b) : (2 : Int) ^ a ≤ 2 ^ b := by
  have := Nat.pow_le_pow_right (n := 2) (by decide) h
  exact_mod_cast this
theorem p2_64 {a : Nat} (h : a ≤ 64) : (2 : Int) ^ a ≤ 18446744073709551616 := p2mono (b := 64) h
theorem p2_63 {a : Nat} (h : a ≤ 63) : (2 : Int) ^ a ≤ 9223372036854775808 := p2mono (b := 63) h
theorem fld_r {w : Int} {a n : Nat} (hn : n ≤ 64) : 0 ≤ w / 2 ^ a % 2 ^ n ∧ w / 2 ^ a % 2 ^ n < 18446744073709551616 := by
  have h := Int.emod_nonneg (w / 2 ^ a) (b := 2 ^ n) (by have := p2pos n; omega)
  have h1 := Int.emod_lt_of_pos (w / 2 ^ a) (p2pos n)
  have := p2_64 hn
  omega
/-! the document's words -/
theorem fld_slot (w : Int) : fldI w 0 15 = w % 65536 := by simp [fldI]
theorem fld_tag {w : Int} (h0 : 0 ≤ w) (h1 : w < 18446744073709551616) : fldI w 16 63 = hTag w := by
  have e : fldI w 16 63 = w / 65536 % 281474976710656 := by simp [fldI]
  rw [e]; unfold hTag; omega
theorem fld_hdrS (w : Int) : fldI w 0 2 = w % 8 := by simp [fldI]
theorem fld_hdrG (w : Int) : fldI w 3 34 = hdrG w := by simp [fldI, hdrG]
theorem put_head (w t : Int) : putI w t 16 63 = w + t % 281474976710656 * 65536 := by simp [putI]
theorem put_hdr {w g : Int} (h0 : 0 ≤ g) (h1 : g < 4294967296) : putI w g 3 34 = w + g * 8 := by
  have e : putI w g 3 34 = w + g % 4294967296 * 8 := by simp [putI]
  rw [e]; omega
def bkN (w : Int) : Int := w % 4294967296
def bkC (w : Int) : Bool := w / 4294967296 % 2 == 1
def bk (n : Int) (c : Bool) : Int := n + (if c then 4294967296 else 0)
theorem fld_bkN (w : Int) : fldI w 0 31 = bkN w := by simp [fldI, bkN]
theorem fld_bkC (w : Int) : fldI w 32 32 = w / 4294967296 % 2 := by simp [fldI]
theorem put_bk (w : Int) : putI w 1 32 32 = w + 4294967296 := by simp [putI]
theorem fld_gen (w : Int) : fldI w 16 47 = w / 65536 % 4294967296 := by simp [fldI]
theorem fld_mark (w : Int) : fldI w 63 63 = w / 9223372036854775808 % 2 := by simp [fldI]
end Go.Ev

/-
  Words of blocks: plain facts.
-/
set_option linter.unusedSimpArgs false
set_option linter.unusedVariables false
namespace Go.Ev
theorem or_32 {x y : Int} (hx : 0 ≤ x) (hx1 : x < 4294967296) (hy : 0 ≤ y) (hy1 : y < 4294967296) : ((BitVec.ofInt 64 x ||| BitVec.ofInt 64 (y * 4294967296)).toNat : Int) = x + y * 4294967296 := by simpa using or_shift 32 (by decide) hx (by simpa using hx1) hy (by simp; omega)
theorem bkN_raw {w : Int} (h0 : 0 ≤ w) (h1 : w < 18446744073709551616) : IntKind.u32.wrap (IntKind.u64.wrap ↑(BitVec.ofInt 64 (w.fdiv 1) &&& BitVec.ofInt 64 4294967295).toNat) = bkN w := by
  rw [Int.fdiv_eq_ediv_of_nonneg w (by decide), Int.ediv_one, and_32 h0 h1, u64w (by omega) (by omega), u32m]
  unfold bkN; omega
theorem bkC_raw {w : Int} (h0 : 0 ≤ w) (h1 : w < 18446744073709551616) : (IntKind.u8.wrap (IntKind.u64.wrap ↑(BitVec.ofInt 64 (w.fdiv 4294967296) &&& BitVec.ofInt 64 1).toNat) == 1) = bkC w := by
  rw [Int.fdiv_eq_ediv_of_nonneg w (by decide), and_1 (by omega) (by omega), u64w (by omega) (by omega), u8m]
  unfold bkC
  congr 1
  omega
theorem bk0_raw {n : Int} (h0 : 0 ≤ n) (h1 : n < 4294967296) : IntKind.u64.wrap ↑(BitVec.ofInt 64 0 ||| BitVec.ofInt 64 (IntKind.u64.wrap (IntKind.u64.wrap ↑(BitVec.ofInt 64 (IntKind.u64.wrap n) &&& BitVec.ofInt 64 4294967295).toNat * 1))).toNat = n := by
  rw [u64w (x := n) h0 (by omega), and_32 h0 (by omega), Int.mul_one, u64w (x := n % 4294967296) (by omega) (by omega), u64w (x := n % 4294967296) (by omega) (by omega), or_0 (by omega) (by omega), u64w (by omega) (by omega)]
  omega
theorem bk1_raw {n : Int} (h0 : 0 ≤ n) (h1 : n < 4294967296) : IntKind.u64.wrap ↑(BitVec.ofInt 64 n ||| BitVec.ofInt 64 4294967296).toNat = n + 4294967296 := by
  have := or_32 h0 h1 (y := 1) (by decide) (by decide)
  rw [Int.one_mul] at this
  rw [this, u64w (by omega) (by omega)]
theorem bk_r {n : Int} (h0 : 0 ≤ n) (h1 : n < 4294967296) (c : Bool) : 0 ≤ bk n c ∧ bk n c < 18446744073709551616 := by
  unfold bk; cases c <;> simp <;> omega
theorem bkN_r {w : Int} : 0 ≤ bkN w ∧ bkN w < 4294967296 := by unfold bkN; omega
end Go.Ev
