/-
  FreesOnce: listed, its loop: definitions.
-/
import Derived.Test.YtljeiencnpnbkaaDoorUFoLaw
import Derived.Test.YtljeiencnpnbkaaDoorEvHide
set_option linter.unusedSimpArgs false
set_option linter.unusedVariables false
namespace Go.Proofs.YtljeiencnpnbkaaDoor
open Go.Ev

def lsX : MS → Nat → MS × Int
  | S, 0 => (mLoad S 0 0 0, hSlot (mget S.M (key 0 0 0)))
  | S, i + 1 => (mLoad (lsX S i).1 9 (lsX S i).2 2, hSlot (mget (lsX S i).1.M (key 9 (lsX S i).2 2)))
noncomputable def lsM (S : MS) (i : Nat) : MS := (lsX S i).1
noncomputable def lsT : MS → Nat → Int := hide (fun S i => (lsX S i).2)
theorem lsT_eq (S : MS) (i : Nat) : lsT S i = (lsX S i).2 := congrFun (congrFun (hide_eq (fun S i => (lsX S i).2)) S) i
theorem lsM_eq (S : MS) (i : Nat) : (lsM S i).M = S.M := by
  induction i with
  | zero => rfl
  | succ i ih => exact ih
theorem lsT_0 (S : MS) : lsT S 0 = hSlot (mget S.M (key 0 0 0)) := lsT_eq S 0
theorem lsM_s (S : MS) (i : Nat) : lsM S (i + 1) = mLoad (lsM S i) 9 (lsT S i) 2 := by rw [lsT_eq]; rfl
theorem lsT_s (S : MS) (i : Nat) : lsT S (i + 1) = hSlot (mget (lsM S i).M (key 9 (lsT S i) 2)) := by rw [lsT_eq, lsT_eq]; rfl
theorem lsM_u {S : MS} (h : U64 S) : ∀ i, U64 (lsM S i)
  | 0 => h.load _ _ _
  | i + 1 => by rw [lsM_s]; exact (lsM_u h i).load _ _ _
def LF (E : Nat → Int) : Nat → Nat → AV := fun j _ => .sym .i64 (E j)
theorem ls_rows {E : Nat → Int} {n : Nat} : ∀ i, i < n + 1 → rowOb [.int .i64] 0 (fun j => if i < n then LF E (0 + i) j else rowsOf 1 [.sym .i64 (E n)] (i - n) j) (LF E i) := fun i hi => by
  by_cases c : i < n
  · simp only [c, if_true]
    exact ⟨by show AV.sym .i64 (E i) = .sym .i64 (E (0 + i)); rw [Nat.zero_add], trivial⟩
  · have e : i = n := by omega
    subst e
    simp only [Nat.lt_irrefl, if_false, Nat.sub_self]
    exact ⟨rfl, trivial⟩
noncomputable def fotU (S : MS) (k : Nat) : St := ⟨[.ptr 1 0 0, .top, .top, .top, .nils, .sym .i64 (hSlot (mget S.M (key 0 0 0)))] ++ List.replicate 27 .top, ⟨[(gnm 0, tabAO tab), (1, .cells 9 (.map 2 :: lsL (lsM S 0).st (lsM S 0).L)), (2, .map 110 (lsM S 0).M)], 3, gnm 0, [], [], [1, 2], false⟩⟩
noncomputable def fotT (S : MS) (k : Nat) (i : Nat) : St := ⟨[.ptr 1 0 0, .top, .top, .top, .ss 1 3 0 i none, .sym .i64 (lsT S i)] ++ List.replicate 27 .top, ⟨[(3, .arr 1 [.int .i64] false i (LF (lsT S))), (gnm 0, tabAO tab), (1, .cells 9 (.map 2 :: lsL (lsM S i).st (lsM S i).L)), (2, .map 110 (lsM S i).M)], 4, gnm 0, [], [], [1, 2], false⟩⟩
noncomputable def fotX (S : MS) (k : Nat) (i : Nat) : St := ⟨[.ptr 1 0 0, .top, .top, .top, .ss 1 3 0 i none] ++ List.replicate 28 .top, ⟨[(3, .arr 1 [.int .i64] false i (LF (lsT S))), (gnm 0, tabAO tab), (1, .cells 9 (.map 2 :: lsL (lsM S i).st (lsM S i).L)), (2, .map 110 (lsM S i).M)], 4, gnm 0, [], [], [1, 2], false⟩⟩
noncomputable abbrev fotL : Code := loopAt Tryd.prog 46 0
noncomputable def fotLP (S : MS) (k : Nat) : Prop := LoopHolds Tryd.prog fotL (fotU S k) (.exit 0) (fotX S k k)
end Go.Proofs.YtljeiencnpnbkaaDoor
