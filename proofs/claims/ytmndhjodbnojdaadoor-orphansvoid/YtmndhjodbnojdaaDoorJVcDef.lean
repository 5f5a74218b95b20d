/-
  may: its loop, where one may not be: definitions.
-/
import Derived.Test.YtmndhjodbnojdaaDoorJVb
set_option linter.unusedSimpArgs false
set_option linter.unusedVariables false
namespace Go.Proofs.YtmndhjodbnojdaaDoor
open Go.Ev

noncomputable def EIm : Env := envG Tryd.prog [(136, locSP ctbSpec)]
theorem EIm_ok : EnvOk EIm := envG_ok mgood ⟨locSP_ok ctbSpec_ok, trivial⟩
/-- Slots of entries. -/
def yK (f : Nat → Nat → AV) : Nat → Int := fun i => avInt (f (0 + i) 0)
structure Gd (f : Nat → Nat → AV) (i : Nat) : Prop where
  a : 0 ≤ yK f i
  b : yK f i < 256
  c : avBool (f (0 + i) 2) = false
  d : anyE i (nF (yK f)) (yK f i) = false
theorem yK_rows {n : Nat} {K : Nat → Int} : ∀ i, i < n + 1 → rowOb [.int .i64] 0 (fun j => if i < n then nF K (0 + i) j else rowsOf 1 [.sym .i64 (K n)] (i - n) j) (nF K i) := fun i hi => by
  by_cases c : i < n
  · simp only [c, if_true, Nat.zero_add]; exact ⟨rfl, trivial⟩
  · have e : i = n := by omega
    subst e; simp only [Nat.lt_irrefl, if_false, Nat.sub_self]; exact ⟨rfl, trivial⟩
/-- Which one is the first that may not be. -/
theorem first_bad {f : Nat → Nat → AV} {n : Nat} (h : ∃ i, i < n ∧ ¬ Gd f i) : ∃ k, k < n ∧ ¬ Gd f k ∧ ∀ i, i < k → Gd f i := by
  obtain ⟨i, hi, hb⟩ := h
  induction i using Nat.strongRecOn with
  | ind i ih =>
    rcases Classical.em (∃ j, j < i ∧ ¬ Gd f j) with ⟨j, hj, hb'⟩ | hn
    · exact ih j hj (by omega) hb'
    · exact ⟨i, hi, hb, fun j hj => Classical.byContradiction (fun c => hn ⟨j, hj, c⟩)⟩
noncomputable def nylU (n l : Nat) (r : Bool) (f : Nat → Nat → AV) (c : Option Nat) (kk : Nat) : St := ⟨[.ss 6 1 0 n c, .top, .nils, .bool false, .nils, .top, .top, .top, .ss 6 1 0 n c, .sym .i64 (Int.ofNat n), .int .i64 0] ++ List.replicate 31 .top, ⟨[(1, .arr 6 [.int .i64, .int .u32, .bool, .int .u64, .int .u64, .int .u64] r l f)], 2, gnm 0, [], [], [], false⟩⟩
noncomputable def nylT (n l : Nat) (r : Bool) (f : Nat → Nat → AV) (c : Option Nat) (kk : Nat) (i : Nat) : St := ⟨[.ss 6 1 0 n c, .top, .nils, .bool false, .ss 1 2 0 i none, .top, .top, .top, .ss 6 1 0 n c, .sym .i64 (Int.ofNat n), .sym .i64 (Int.ofNat i)] ++ List.replicate 31 .top, ⟨[(1, .arr 6 [.int .i64, .int .u32, .bool, .int .u64, .int .u64, .int .u64] r l f), (2, .arr 1 [.int .i64] false i (nF (yK f)))], 3, gnm 0, [], [], [], false⟩⟩
noncomputable def nylX (n l : Nat) (r : Bool) (f : Nat → Nat → AV) (c : Option Nat) (kk : Nat) (i : Nat) : St := ⟨[.top, .top, .nils, .bool false] ++ List.replicate 38 .top, ⟨[(1, .arr 6 [.int .i64, .int .u32, .bool, .int .u64, .int .u64, .int .u64] r l f)], 3, gnm 0, [], [], [], false⟩⟩
noncomputable abbrev nylL : Code := loopAt Tryd.prog 78 0
noncomputable def nylLP (n l : Nat) (r : Bool) (f : Nat → Nat → AV) (c : Option Nat) (kk : Nat) : Prop := LoopHolds Tryd.prog nylL (nylU n l r f c kk) (.ret) (nylX n l r f c kk kk)
end Go.Proofs.YtmndhjodbnojdaaDoor
