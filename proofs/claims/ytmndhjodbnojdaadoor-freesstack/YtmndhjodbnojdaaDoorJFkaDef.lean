/-
  FreesStack: the first loop: definitions.
-/
import Derived.Test.YtmndhjodbnojdaaDoorJFki
set_option linter.unusedSimpArgs false
set_option linter.unusedVariables false
namespace Go.Proofs.YtmndhjodbnojdaaDoor
open Go.Ev

theorem LI_app (L : List Int) (x : Int) {k : Nat} (h : k < L.length) : LI (L ++ [x]) k = LI L k := by
  rw [LI_def, LI_def]; simp [List.getD, List.getElem?_append_left h]
theorem LI_end (L : List Int) (x : Int) : LI (L ++ [x]) L.length = x := by
  rw [LI_def]; simp [List.getD]
theorem ddN_t {f : Nat → Nat → AV} {i : Nat} (h : hadB (LI (ddN f i)) (IntKind.i64.wrap (avInt (f (0 + i) 0))) (ddN f i).length = true) : ddN f (i + 1) = ddN f i := by
  simp only [ddN, h]
theorem ddN_f {f : Nat → Nat → AV} {i : Nat} (h : hadB (LI (ddN f i)) (IntKind.i64.wrap (avInt (f (0 + i) 0))) (ddN f i).length = false) : ddN f (i + 1) = ddN f i ++ [IntKind.i64.wrap (avInt (f (0 + i) 0))] := by
  simp only [ddN, h]
theorem ddN_y {f : Nat → Nat → AV} {i : Nat} (h : (!hadB (LI (ddN f i)) (IntKind.i64.wrap (avInt (f (0 + i) 0))) (ddN f i).length) = true) : ddN f (i + 1) = ddN f i ++ [IntKind.i64.wrap (avInt (f (0 + i) 0))] := ddN_f (by simpa using h)
theorem ddN_n {f : Nat → Nat → AV} {i : Nat} (h : (!hadB (LI (ddN f i)) (IntKind.i64.wrap (avInt (f (0 + i) 0))) (ddN f i).length) = false) : ddN f (i + 1) = ddN f i := ddN_t (by simpa using h)
theorem ddN_len (f : Nat → Nat → AV) : ∀ i, (ddN f i).length ≤ i
  | 0 => Nat.le_refl _
  | i + 1 => by
    have := ddN_len f i
    cases h : hadB (LI (ddN f i)) (IntKind.i64.wrap (avInt (f (0 + i) 0))) (ddN f i).length with
    | true => rw [ddN_t h]; omega
    | false => rw [ddN_f h]; simp; omega
theorem dd_rows {L : List Int} {x : Int} : ∀ i, i < (L ++ [x]).length → rowOb [.int .i64] 0 (fun j => if i < L.length then LF (LI L) (0 + i) j else rowsOf 1 [.sym .i64 x] (i - L.length) j) (LF (LI (L ++ [x])) i) := fun i hi => by
  by_cases c : i < L.length
  · simp only [c, if_true]
    refine ⟨?_, trivial⟩
    show AV.sym .i64 (LI (L ++ [x]) i) = .sym .i64 (LI L (0 + i))
    rw [Nat.zero_add, LI_app L x c]
  · have e : i = L.length := by simp at hi; omega
    subst e
    simp only [Nat.lt_irrefl, if_false, Nat.sub_self]
    refine ⟨?_, trivial⟩
    show AV.sym .i64 (LI (L ++ [x]) L.length) = .sym .i64 x
    rw [LI_end]
noncomputable def fkaU (m : Nat) (f : Nat → Nat → AV) : St := ⟨[.ss 1 1 0 m none, .top, .bool false, .nils, .int .i64 0] ++ List.replicate 217 .top, ⟨[(gnm 0, tabAO tab), (1, .arr 1 [.int .u8] true m f)], 2, gnm 0, [], [], [], false⟩⟩
noncomputable def fkaT (m : Nat) (f : Nat → Nat → AV) (i : Nat) : St := ⟨[.ss 1 1 0 m none, .top, .bool false, .ss 1 2 0 (ddN f i).length none, .sym .i64 (Int.ofNat i)] ++ List.replicate 217 .top, ⟨[(gnm 0, tabAO tab), (1, .arr 1 [.int .u8] true m f), (2, .arr 1 [.int .i64] false (ddN f i).length (LF (LI (ddN f i))))], 3, gnm 0, [], [], [], false⟩⟩
noncomputable def fkaX (m : Nat) (f : Nat → Nat → AV) (i : Nat) : St := ⟨[.ss 1 1 0 m none, .top, .bool false, .ss 1 2 0 (ddN f i).length none] ++ List.replicate 218 .top, ⟨[(gnm 0, tabAO tab), (1, .arr 1 [.int .u8] true m f), (2, .arr 1 [.int .i64] false (ddN f i).length (LF (LI (ddN f i))))], 3, gnm 0, [], [], [], false⟩⟩
noncomputable abbrev fkaL : Code := loopAt Tryd.prog 3 0
noncomputable def fkaLP (m : Nat) (f : Nat → Nat → AV) : Prop := LoopHolds Tryd.prog fkaL (fkaU m f) (.exit 0) (fkaX m f m)
end Go.Proofs.YtmndhjodbnojdaaDoor
