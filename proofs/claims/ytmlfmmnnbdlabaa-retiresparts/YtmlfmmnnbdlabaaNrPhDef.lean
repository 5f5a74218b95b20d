/-
  RetiresParts: the fourth loop: definitions.
-/
import Derived.Test.YtmlfmmnnbdlabaaNrPg
set_option linter.unusedSimpArgs false
set_option linter.unusedVariables false
namespace Go.Proofs.Ytmlfmmnnbdlabaa
open Go.Ev
def evF : Nat → Nat → AV := fun _ _ => .symb true
theorem ev_rows (ii : Nat) : ∀ i, i < ii + 1 → rowOb [.bool] 0 (fun j => if i < ii then evF (0 + i) j else rowsOf 1 [ofVal (Value.bool true)] (i - ii) j) (evF i) := fun i hi => by
  by_cases c : i < ii
  · simp only [c, if_true]; exact ⟨rfl, trivial⟩
  · have d : i = ii := by omega
    subst d; simp only [Nat.lt_irrefl, if_false, Nat.sub_self]; exact ⟨rfl, trivial⟩

noncomputable def peU (n : Nat) : St := ⟨[.top, .top, .top, .top, .bool false, .ptr 1 0 0, .top, .ss 6 2 0 n (some n), .top, .top, .top, .top, .top, .top, .nils, .int .i64 0] ++ List.replicate 159 .top, ⟨[], 3, gnm 0, [], [], [], false⟩⟩
noncomputable def peT (n : Nat) (i : Nat) : St := ⟨[.top, .top, .top, .top, .bool false, .ptr 1 0 0, .top, .ss 6 2 0 n (some n), .top, .top, .top, .top, .top, .top, .ss 1 3 0 i none, .sym .i64 (Int.ofNat i)] ++ List.replicate 159 .top, ⟨[(3, .arr 1 [.bool] false i evF)], 4, gnm 0, [], [], [], false⟩⟩
noncomputable def peX (n : Nat) (i : Nat) : St := ⟨[.top, .top, .top, .top, .bool false, .ptr 1 0 0, .top, .ss 6 2 0 n (some n), .top, .top, .top, .top, .top, .top, .ss 1 3 0 n none] ++ List.replicate 160 .top, ⟨[(3, .arr 1 [.bool] false i evF)], 4, gnm 0, [], [], [], false⟩⟩
noncomputable abbrev peL : Code := loopAt Try.prog 3 3
noncomputable def peLP (n : Nat) : Prop := LoopHolds Try.prog peL (peU n) (.exit 7) (peX n n)
end Go.Proofs.Ytmlfmmnnbdlabaa
