/-
  BlocksMost: definitions.
-/
import Derived.Test.YtofopjkjmhepeaaDoorTBlk
import Derived.Test.YtofopjkjmhepeaaDoorTTab11
set_option linter.unusedSimpArgs false
set_option linter.unusedVariables false
namespace Go.Proofs.YtofopjkjmhepeaaDoor
open Go.Ev
noncomputable def EM : Env := envG Tryd.prog ((33, tabSP 0 tab sNone) :: (30, locSP bmoSpec) :: (32, locSP bleSpec) :: memSpecs)
theorem EM_ok : EnvOk EM := envG_ok mgood ⟨tabSP_ok rfl (sNone_ok tl11_pure), locSP_ok bmoSpec_ok, locSP_ok bleSpec_ok, memSpecs_ok⟩
def bmU (n : Int) : Int := if 4 < n + 1 then 4 else n + 1
def bmD (n : Int) : Int := if 1 > n - 1 then 1 else n - 1
def bmN (n : Int) : Nat → Int
  | 0 => n
  | k + 1 => bmU (bmN n k)
def bmS (S : MS) : Nat → MS
  | 0 => S
  | k + 1 => moreA (bmS S k)
def blN (n : Int) : Nat → Int
  | 0 => n
  | k + 1 => bmD (blN n k)
def blS (S : MS) : Nat → MS
  | 0 => S
  | k + 1 => lessA (blS S k)
structure BInv (n : Int) (S : MS) : Prop where
  lo : 1 ≤ n
  hi : n ≤ 4
  b : mget S.M (key 5 0 0) = n
  z : ∀ j, 0 ≤ j → j < n → mget S.M (key 7 j 0) = 0
  t : ∀ j, 0 ≤ j → j < 4 → mget S.M (key 7 j 0) = 0 ∨ mget S.M (key 7 j 0) = 4294967296
theorem may7 {j : Int} (h0 : 0 ≤ j) (h1 : j < 4) : mayA 7 j 0 = true := by
  simp only [mayA, kAt, kFl, decide_eq_true_eq]; simp; omega
theorem BInv.more {n : Int} {S : MS} (h : BInv n S) : BInv (bmU n) (moreA S) := by
  obtain ⟨lo, hi, b, z, t⟩ := h
  by_cases h4 : 4 ≤ n
  · obtain rfl : n = 4 := by omega
    have e : moreA S = mLoad S 5 0 0 := (moreA_t (by omega)).1
    rw [e]
    exact ⟨by decide, by decide, b, z, t⟩
  · have e := (moreA_f (S := S) (by omega)).1
    have hb : mg S 5 0 0 = n := b
    rw [hb, u64w (by omega) (by omega), i64w (by omega) (by omega)] at e
    have hu : bmU n = n + 1 := by unfold bmU; rw [if_neg (by omega)]
    have c1 : casD S.M 5 0 0 n = true := casD_eq b (by decide)
    have M' : (moreA S).M = casM (casM S.M 5 0 0 n (n + 1)) 7 n 0 4294967296 0 := by rw [e]; rfl
    have g7 : ∀ j, mget (casM S.M 5 0 0 n (n + 1)) (key 7 j 0) = mget S.M (key 7 j 0) := fun j => by rw [casM_get, if_neg (by simp)]
    have key7 : ∀ j, 0 ≤ j → j < 4 → mget (moreA S).M (key 7 j 0) = if j = n then 0 else mget S.M (key 7 j 0) := by
      intro j j0 j4
      rw [M', casM_get, g7]
      by_cases hj : j = n
      · subst hj
        rw [if_pos rfl]
        rcases t j j0 j4 with q | q
        · rw [q]; split <;> rfl
        · rw [if_pos ⟨casD_eq (by rw [g7]; exact q) (may7 j0 j4), may7 j0 j4, rfl, rfl, rfl⟩]
      · rw [if_neg (by simp [hj]), if_neg hj]
    rw [hu]
    refine ⟨by omega, by omega, ?_, fun j j0 j1 => ?_, fun j j0 j1 => ?_⟩
    · rw [M', casM_get, if_neg (by simp), casM_get, if_pos ⟨c1, by decide, rfl, rfl, rfl⟩]
    · rw [key7 j j0 (by omega)]
      split
      · rfl
      · exact z j j0 (by omega)
    · rw [key7 j j0 j1]
      split
      · exact .inl rfl
      · exact t j j0 j1
theorem BInv.less {n : Int} {S : MS} (h : BInv n S) : BInv (bmD n) (lessA S) := by
  obtain ⟨lo, hi, b, z, t⟩ := h
  by_cases h1 : n ≤ 1
  · obtain rfl : n = 1 := by omega
    have e : lessA S = mLoad S 5 0 0 := (lessA_t (by omega)).1
    rw [e]
    exact ⟨by decide, by decide, b, z, t⟩
  · have e := (lessA_f (S := S) (by omega)).1
    have hb : mg S 5 0 0 = n := b
    rw [hb, lessJ_eq (by omega) hi, u64w (by omega) (by omega)] at e
    have hu : bmD n = n - 1 := by unfold bmD; rw [if_neg (by omega)]
    have c1 : casD S.M 7 (n - 1) 0 0 = true := casD_eq (z _ (by omega) (by omega)) (may7 (by omega) (by omega))
    have M' : (lessA S).M = casM (casM S.M 7 (n - 1) 0 0 4294967296) 5 0 0 n (n - 1) := by rw [e]; rfl
    have g5 : mget (casM S.M 7 (n - 1) 0 0 4294967296) (key 5 0 0) = n := by rw [casM_get, if_neg (by simp)]; exact b
    have key7 : ∀ j, mget (lessA S).M (key 7 j 0) = if j = n - 1 then 4294967296 else mget S.M (key 7 j 0) := by
      intro j
      rw [M', casM_get, if_neg (by simp), casM_get]
      by_cases hj : j = n - 1
      · rw [if_pos ⟨c1, may7 (by omega) (by omega), rfl, hj, rfl⟩, if_pos hj]
      · rw [if_neg (by simp [hj]), if_neg hj]
    rw [hu]
    refine ⟨by omega, by omega, ?_, fun j j0 j1 => ?_, fun j j0 j1 => ?_⟩
    · rw [M', casM_get, if_pos ⟨casD_eq g5 (by decide), by decide, rfl, rfl, rfl⟩]
    · rw [key7 j, if_neg (by omega)]
      exact z j j0 (by omega)
    · rw [key7 j]
      split
      · exact .inr rfl
      · exact t j j0 j1
theorem bmInv {n : Int} {S : MS} (h : BInv n S) : ∀ k, BInv (bmN n k) (bmS S k)
  | 0 => h
  | k + 1 => (bmInv h k).more
theorem blInv {n : Int} {S : MS} (h : BInv n S) : ∀ k, BInv (blN n k) (blS S k)
  | 0 => h
  | k + 1 => (blInv h k).less
section
variable (come gone n : Int) (S : MS)
noncomputable def bmH (S : MS) : List (Nat × AO) := [(2, .cells 9 (.map 1 :: msL S)), (1, .map 110 S.M), (gnm 0, tabAO tab)]
noncomputable def bmUp : St := ⟨[.top, .sym .u8 come, .sym .u8 gone, .top, .top, .top, .bool false, .sym .i64 n, .ptr 2 0 0, .int .i64 0] ++ List.replicate 78 .top, ⟨bmH S, 3, gnm 0, [], [], [2, 1], false⟩⟩
noncomputable def bmT (i : Nat) (n : Int) (S : MS) : St := ⟨[.top, .sym .u8 come, .sym .u8 gone, .top, .top, .top, .bool false, .sym .i64 n, .ptr 2 0 0, .sym .i64 (Int.ofNat i)] ++ List.replicate 78 .top, ⟨bmH S, 3, gnm 0, [], [], [2, 1], false⟩⟩
noncomputable def bmX (n : Int) (S : MS) : St := ⟨[.top, .top, .sym .u8 gone, .top, .top, .top, .bool false, .sym .i64 n, .ptr 2 0 0] ++ List.replicate 79 .top, ⟨bmH S, 3, gnm 0, [], [], [2, 1], false⟩⟩
noncomputable abbrev lcM1 := loopAt Tryd.prog 6 0
noncomputable abbrev lcM2 := loopAt Tryd.prog 6 1
noncomputable def bmL1 (n2 : Int) (S2 : MS) : Prop := LoopHolds Tryd.prog lcM1 (bmUp come gone n S) (.exit 0) (bmX gone n2 S2)
noncomputable def blUp : St := ⟨[.top, .top, .sym .u8 gone, .top, .top, .top, .bool false, .sym .i64 n, .ptr 2 0 0, .top, .top, .top, .int .i64 0] ++ List.replicate 75 .top, ⟨bmH S, 3, gnm 0, [], [], [2, 1], false⟩⟩
noncomputable def blT (i : Nat) (n : Int) (S : MS) : St := ⟨[.top, .top, .sym .u8 gone, .top, .top, .top, .bool false, .sym .i64 n, .ptr 2 0 0, .top, .top, .top, .sym .i64 (Int.ofNat i)] ++ List.replicate 75 .top, ⟨bmH S, 3, gnm 0, [], [], [2, 1], false⟩⟩
noncomputable def blX (n : Int) (S : MS) : St := ⟨[.top, .top, .top, .top, .top, .top, .bool false, .sym .i64 n, .ptr 2 0 0] ++ List.replicate 79 .top, ⟨bmH S, 3, gnm 0, [], [], [2, 1], false⟩⟩
noncomputable def bmL2 (n2 : Int) (S2 : MS) : Prop := LoopHolds Tryd.prog lcM2 (blUp gone n S) (.exit 2) (blX n2 S2)
def bmS0 (first : Int) : MS := mStore ms0 5 0 0 (IntKind.u64.wrap (IntKind.i64.wrap ((IntKind.i64.wrap first).tmod 4 + 1)))
def bmN0 (first : Int) : Int := IntKind.i64.wrap ((IntKind.i64.wrap first).tmod 4 + 1)
end
noncomputable def mostRun (first come gone : Int) (h : List Hint) : Option (AV × List Prop × Bool) := (callF EM 2000 6 [.sym .u8 first, .sym .u8 come, .sym .u8 gone] ⟨tabsH [(0, tab)], 1, gnm 0, h, [], [], false⟩).map (fun x => (x.1, x.2.ob, noneIn (tabsH [(0, tab)]) x.2.wr))
theorem bmN0_eq {first : Int} (h0 : 0 ≤ first) (h1 : first < 256) : bmN0 first = first % 4 + 1 := by
  unfold bmN0
  rw [i64w (x := first) (by omega) (by omega), Int.tmod_eq_emod_of_nonneg h0, i64w (by omega) (by omega)]
theorem bmInv0 {first : Int} (h0 : 0 ≤ first) (h1 : first < 256) : BInv (bmN0 first) (bmS0 first) := by
  have e := bmN0_eq h0 h1
  have z : ∀ j, mget (bmS0 first).M (key 7 j 0) = 0 := fun j => by
    show mget (memPut _ 5 0 0 _) (key 7 j 0) = 0
    rw [mget_put, if_neg (by simp)]; rfl
  refine ⟨by omega, by omega, ?_, fun j _ _ => z j, fun j _ _ => .inl (z j)⟩
  show mget (memPut _ 5 0 0 (IntKind.u64.wrap (bmN0 first))) (key 5 0 0) = bmN0 first
  rw [mget_put, if_pos ⟨by decide, rfl, rfl, rfl⟩, u64w (by omega) (by omega)]
theorem tmod9 {x : Int} (h0 : 0 ≤ x) (h1 : x < 256) : (IntKind.i64.wrap x).tmod 9 = ((x % 9).toNat : Int) ∧ (x % 9).toNat ≤ 8 := by
  rw [i64w (by omega) (by omega), Int.tmod_eq_emod_of_nonneg h0]
  omega
theorem many_eq {b : Int} (h0 : 0 ≤ b) (h1 : b ≤ 4) : IntKind.i64.wrap (b.tmod 100) = b := by
  rw [Int.tmod_eq_emod_of_nonneg h0, i64w (by omega) (by omega)]; omega
end Go.Proofs.YtofopjkjmhepeaaDoor
