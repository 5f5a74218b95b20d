/-
  Blocks: one more, one less, alone: definitions.
-/
import Derived.Test.YtofopjkjmhepeaaDoorTMemOps
import Derived.Test.YtofopjkjmhepeaaDoorTTab
import Derived.Test.YtofopjkjmhepeaaDoorEvBits
set_option linter.unusedSimpArgs false
set_option linter.unusedVariables false
namespace Go.Proofs.YtofopjkjmhepeaaDoor
open Go.Ev

noncomputable def EB : Env := envG Tryd.prog memSpecs
theorem EB_ok : EnvOk EB := envG_ok mgood memSpecs_ok
def msL (S : MS) : List AV := .sym .i64 S.st :: S.L.l
def mg (S : MS) (k a f : Int) : Int := mget S.M (key k a f)
def moreA (S : MS) : MS := if 4 ≤ mg S 5 0 0 then mLoad S 5 0 0 else mCas (mCas (mLoad S 5 0 0) 5 0 0 (mg S 5 0 0) (IntKind.u64.wrap (mg S 5 0 0 + 1))) 7 (IntKind.i64.wrap (mg S 5 0 0)) 0 4294967296 0
def moreE (b : Int) : Int := if 4 ≤ b then 5 else 0
def moreN (b : Int) : Int := if 4 ≤ b then 1 else 3
def lessJ (b : Int) : Int := IntKind.i64.wrap (IntKind.u64.wrap (b - 1))
def lessA (S : MS) : MS := if mg S 5 0 0 ≤ 1 then mLoad S 5 0 0 else mCas (mCas (mLoad S 5 0 0) 7 (lessJ (mg S 5 0 0)) 0 0 4294967296) 5 0 0 (mg S 5 0 0) (IntKind.u64.wrap (mg S 5 0 0 - 1))
def lessE (b : Int) : Int := if b ≤ 1 then 4 else 0
def lessN (b : Int) : Int := if b ≤ 1 then 1 else 3
theorem casD_self (M : List Int → Option Int) (k a f : Int) (h : mayA k a f = true) : casD M k a f (mget M (key k a f)) = true := by simp [casD, h]
theorem casD_eq {M : List Int → Option Int} {k a f w : Int} (h1 : mget M (key k a f) = w) (h : mayA k a f = true) : casD M k a f w = true := by subst h1; exact casD_self M k a f h
theorem casM_get (M : List Int → Option Int) (k a f w v k' a' f' : Int) : mget (casM M k a f w v) (key k' a' f') = if casD M k a f w = true ∧ mayA k a f = true ∧ k' = k ∧ a' = a ∧ f' = f then v else mget M (key k' a' f') := by
  rw [casM_put]
  by_cases h : casD M k a f w = true
  · rw [if_pos h, mget_put]; simp [h]
  · rw [if_neg h]; simp [h]
theorem moreA_t {S : MS} (h : 4 ≤ mget S.M (key 5 0 0)) : moreA S = mLoad S 5 0 0 ∧ moreE (mget S.M (key 5 0 0)) = 5 ∧ moreN (mget S.M (key 5 0 0)) = 1 := ⟨if_pos h, if_pos h, if_pos h⟩
theorem moreA_f {S : MS} (h : ¬ 4 ≤ mget S.M (key 5 0 0)) : moreA S = mCas (mCas (mLoad S 5 0 0) 5 0 0 (mg S 5 0 0) (IntKind.u64.wrap (mg S 5 0 0 + 1))) 7 (IntKind.i64.wrap (mg S 5 0 0)) 0 4294967296 0 ∧ moreE (mget S.M (key 5 0 0)) = 0 ∧ moreN (mget S.M (key 5 0 0)) = 3 := ⟨if_neg h, if_neg h, if_neg h⟩
theorem lessA_t {S : MS} (h : mget S.M (key 5 0 0) ≤ 1) : lessA S = mLoad S 5 0 0 ∧ lessE (mget S.M (key 5 0 0)) = 4 ∧ lessN (mget S.M (key 5 0 0)) = 1 := ⟨if_pos h, if_pos h, if_pos h⟩
theorem lessA_f {S : MS} (h : ¬ mget S.M (key 5 0 0) ≤ 1) : lessA S = mCas (mCas (mLoad S 5 0 0) 7 (lessJ (mg S 5 0 0)) 0 0 4294967296) 5 0 0 (mg S 5 0 0) (IntKind.u64.wrap (mg S 5 0 0 - 1)) ∧ lessE (mget S.M (key 5 0 0)) = 0 ∧ lessN (mget S.M (key 5 0 0)) = 3 := ⟨if_neg h, if_neg h, if_neg h⟩
theorem lessJ_eq {b : Int} (h1 : 1 ≤ b) (h2 : b ≤ 4) : lessJ b = b - 1 := by
  unfold lessJ
  rw [u64w (by omega) (by omega), i64w (by omega) (by omega)]

theorem ble_c1 {M : List Int → Option Int} (h1 : 1 < mget M (key 5 0 0)) (h4 : mget M (key 5 0 0) ≤ 4) (hz : 1 < mget M (key 5 0 0) → mget M (key 7 (mget M (key 5 0 0) - 1) 0) = 0) : casD M 7 (IntKind.i64.wrap (IntKind.u64.wrap (mget M (key 5 0 0) - 1))) 0 0 = true := by
  have e : IntKind.i64.wrap (IntKind.u64.wrap (mget M (key 5 0 0) - 1)) = mget M (key 5 0 0) - 1 := lessJ_eq (by omega) h4
  rw [e]
  refine casD_eq (hz h1) ?_
  simp only [mayA, kAt, kFl, decide_eq_true_eq]
  simp
  omega
theorem ble_c2 {M : List Int → Option Int} (h1 : 1 < mget M (key 5 0 0)) (h4 : mget M (key 5 0 0) ≤ 4) (hz : 1 < mget M (key 5 0 0) → mget M (key 7 (mget M (key 5 0 0) - 1) 0) = 0) : casD (casM M 7 (IntKind.i64.wrap (IntKind.u64.wrap (mget M (key 5 0 0) - 1))) 0 0 4294967296) 5 0 0 (mget M (key 5 0 0)) = true := by
  refine casD_eq ?_ (by decide)
  rw [casM_get]; simp

noncomputable def bmoH (M : List Int → Option Int) (st c0 k0 a0 f0 w0 i0 : Int) (d0 : Bool) (FT : Nat → Nat → AV) : List (Nat × AO) := [(gnm 0, .arr tab.length (tab.map kindOfV) true 1 FT), (1, .cells 9 [.map 2, .sym .i64 st, .sym .u8 c0, .sym .u8 k0, .sym .i64 a0, .sym .i64 f0, .sym .u64 w0, .sym .u64 i0, .symb d0]), (2, .map 110 M)]
noncomputable def bmoR (M : List Int → Option Int) (st c0 k0 a0 f0 w0 i0 : Int) (d0 : Bool) (FT : Nat → Nat → AV) : LR := ⟨2, .tup [.sym .i64 (moreE (mget M (key 5 0 0))), .sym .i64 (moreN (mget M (key 5 0 0)))], [(1, .cells 9 (.map 2 :: msL (moreA ⟨M, st, ⟨c0, k0, a0, f0, w0, i0, d0⟩⟩))), (2, .map 110 (moreA ⟨M, st, ⟨c0, k0, a0, f0, w0, i0, d0⟩⟩).M)], 0, [1, 2], [FT = tabF tab]⟩
noncomputable def bleH (M : List Int → Option Int) (st c0 k0 a0 f0 w0 i0 : Int) (d0 : Bool) (FT : Nat → Nat → AV) : List (Nat × AO) := [(gnm 0, .arr tab.length (tab.map kindOfV) true 1 FT), (1, .cells 9 [.map 2, .sym .i64 st, .sym .u8 c0, .sym .u8 k0, .sym .i64 a0, .sym .i64 f0, .sym .u64 w0, .sym .u64 i0, .symb d0]), (2, .map 110 M)]
noncomputable def bleR (M : List Int → Option Int) (st c0 k0 a0 f0 w0 i0 : Int) (d0 : Bool) (FT : Nat → Nat → AV) : LR := ⟨2, .tup [.sym .i64 (lessE (mget M (key 5 0 0))), .sym .i64 (lessN (mget M (key 5 0 0)))], [(1, .cells 9 (.map 2 :: msL (lessA ⟨M, st, ⟨c0, k0, a0, f0, w0, i0, d0⟩⟩))), (2, .map 110 (lessA ⟨M, st, ⟨c0, k0, a0, f0, w0, i0, d0⟩⟩).M)], 0, [1, 2], [FT = tabF tab, mget M (key 5 0 0) ≤ 4, 1 < mget M (key 5 0 0) → mget M (key 7 (mget M (key 5 0 0) - 1) 0) = 0]⟩
end Go.Proofs.YtofopjkjmhepeaaDoor
