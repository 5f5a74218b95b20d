/-
  EvBit1 and what follows it.
-/
import Derived.Test.YtlpcdjhojfopjaaDoorEvFam
import Derived.Test.YtlpcdjhojfopjaaDoorKMemDef
/-
  Words bit by bit (the document's layer 1): plain facts.
-/
set_option linter.unusedSimpArgs false
set_option linter.unusedVariables false
namespace Go.Ev
def p2 (n : Nat) : Int := 2 ^ n
theorem p2pos (n : Nat) : (0 : Int) < 2 ^ n := Int.pow_pos (by decide)
theorem div_succ (w : Int) (k : Nat) : w / 2 ^ k / 2 = w / 2 ^ (k + 1) := by
  rw [Int.ediv_ediv_of_nonneg (Int.le_of_lt (p2pos k)), Int.pow_succ]
theorem emod_mul {x : Int} (h : 0 ≤ x) (a b : Nat) : x % ((a * b : Nat) : Int) = x % (a : Int) + (a : Int) * (x / (a : Int) % (b : Int)) := by
  obtain ⟨n, rfl⟩ := Int.eq_ofNat_of_zero_le h
  exact_mod_cast (Nat.mod_mul (x := n) (a := a) (b := b))
theorem fld_succ {w : Int} (h : 0 ≤ w) (a n : Nat) : 2 * (w / 2 ^ (a + 1) % 2 ^ n) + w / 2 ^ a % 2 = w / 2 ^ a % 2 ^ (n + 1) := by
  have h0 : 0 ≤ w / 2 ^ a := Int.ediv_nonneg h (Int.le_of_lt (p2pos a))
  have e := emod_mul h0 2 (2 ^ n)
  rw [← div_succ]
  have e2 : ((2 * 2 ^ n : Nat) : Int) = 2 ^ (n + 1) := by rw [Int.pow_succ]; simp [Int.mul_comm]
  rw [e2] at e
  rw [e]
  simp
  omega
theorem put_succ {x : Int} (h : 0 ≤ x) (n : Nat) : x % 2 ^ (n + 1) = x % 2 ^ n + x / 2 ^ n % 2 * 2 ^ n := by
  have e := emod_mul h (2 ^ n) 2
  have e2 : ((2 ^ n * 2 : Nat) : Int) = 2 ^ (n + 1) := by rw [Int.pow_succ]; simp
  rw [e2] at e
  rw [e]
  simp [Int.mul_comm]
/-- A bit, a field of a word. -/
def bitI (w i : Int) : Int := w / 2 ^ i.toNat % 2
def fldI (w a b : Int) : Int := w / 2 ^ a.toNat % 2 ^ (b + 1 - a).toNat
def putI (w x a b : Int) : Int := w + x % 2 ^ (b + 1 - a).toNat * 2 ^ a.toNat
theorem div_r {w : Int} (h : 0 ≤ w) (h1 : w < 18446744073709551616) (k : Nat) : 0 ≤ w / 2 ^ k ∧ w / 2 ^ k < 18446744073709551616 := by
  refine ⟨Int.ediv_nonneg h (Int.le_of_lt (p2pos k)), ?_⟩
  have := Int.ediv_le_self (a := w) (2 ^ k) h
  omega
theorem p2mono {a b : Nat} (h : a ≤ b) : (2 : Int) ^ a ≤ 2 ^ b := by
  have := Nat.pow_le_pow_right (n := 2) (by decide) h
  exact_mod_cast this
theorem p2_64 {a : Nat} (h : a ≤ 64) : (2 : Int) ^ a ≤ 18446744073709551616 := p2mono (b := 64) h
theorem p2_63 {a : Nat} (h : a ≤ 63) : (2 : Int) ^ a ≤ 9223372036854775808 := p2mono (b := 63) h
theorem fld_r {w : Int} {a n : Nat} (hn : n ≤ 64) : 0 ≤ w / 2 ^ a % 2 ^ n ∧ w / 2 ^ a % 2 ^ n < 18446744073709551616 := by
  have h := Int.emod_nonneg (w / 2 ^ a) (b := 2 ^ n) (by have := p2pos n; omega)
  have h1 := Int.emod_lt_of_pos (w / 2 ^ a) (p2pos n)
  have := p2_64 hn
  omega
/-! the document's words -/
theorem fld_slot (w : Int) : fldI w 0 15 = w % 65536 := by simp [fldI]
theorem fld_tag {w : Int} (h0 : 0 ≤ w) (h1 : w < 18446744073709551616) : fldI w 16 63 = hTag w := by
  have e : fldI w 16 63 = w / 65536 % 281474976710656 := by simp [fldI]
  rw [e]; unfold hTag; omega
theorem fld_hdrS (w : Int) : fldI w 0 2 = w % 8 := by simp [fldI]
theorem fld_hdrG (w : Int) : fldI w 3 34 = hdrG w := by simp [fldI, hdrG]
theorem put_head (w t : Int) : putI w t 16 63 = w + t % 281474976710656 * 65536 := by simp [putI]
theorem put_hdr {w g : Int} (h0 : 0 ≤ g) (h1 : g < 4294967296) : putI w g 3 34 = w + g * 8 := by
  have e : putI w g 3 34 = w + g % 4294967296 * 8 := by simp [putI]
  rw [e]; omega
def bkN (w : Int) : Int := w % 4294967296
def bkC (w : Int) : Bool := w / 4294967296 % 2 == 1
def bk (n : Int) (c : Bool) : Int := n + (if c then 4294967296 else 0)
theorem fld_bkN (w : Int) : fldI w 0 31 = bkN w := by simp [fldI, bkN]
theorem fld_bkC (w : Int) : fldI w 32 32 = w / 4294967296 % 2 := by simp [fldI]
theorem put_bk (w : Int) : putI w 1 32 32 = w + 4294967296 := by simp [putI]
theorem fld_gen (w : Int) : fldI w 16 47 = w / 65536 % 4294967296 := by simp [fldI]
theorem fld_mark (w : Int) : fldI w 63 63 = w / 9223372036854775808 % 2 := by simp [fldI]
end Go.Ev

/-
  The document's words: bit: definitions.
-/
set_option linter.unusedSimpArgs false
set_option linter.unusedVariables false
namespace Go.Proofs.YtlpcdjhojfopjaaDoor
open Go.Ev

noncomputable def rblU (w b : Int) : St := ⟨[.sym .u64 w, .sym .i64 b, .top, .top, .top, .int .i64 0] ++ List.replicate 9 .top, ⟨[], 1, gnm 0, [], [], [], false⟩⟩
noncomputable def rblT (w b : Int) (i : Nat) : St := ⟨[.sym .u64 (w / 2 ^ i), .sym .i64 b, .top, .top, .top, .sym .i64 (Int.ofNat i)] ++ List.replicate 9 .top, ⟨[], 1, gnm 0, [], [], [], false⟩⟩
noncomputable def rblX (w b : Int) (i : Nat) : St := ⟨[.sym .u64 (w / 2 ^ i), .sym .i64 b] ++ List.replicate 13 .top, ⟨[], 1, gnm 0, [], [], [], false⟩⟩
noncomputable abbrev rblL : Code := loopAt Tryd.prog 131 0
noncomputable def rblLP (w b : Int) : Prop := LoopHolds Tryd.prog rblL (rblU w b) (.exit 0) (rblX w b b.toNat)
noncomputable def rbitH (w b : Int) : List (Nat × AO) := []
noncomputable def rbitR (w b : Int) : LR := ⟨0, .sym .u64 (bitI w b), [], 0, [], [0 ≤ w, w < 18446744073709551616, 0 ≤ b, b ≤ 64]⟩
end Go.Proofs.YtlpcdjhojfopjaaDoor
