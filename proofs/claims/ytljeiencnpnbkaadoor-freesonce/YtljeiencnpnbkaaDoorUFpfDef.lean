/-
  FreesOnce: the counts: definitions.
-/
import Derived.Test.YtljeiencnpnbkaaDoorUFpeDef0
set_option linter.unusedSimpArgs false
set_option linter.unusedVariables false
namespace Go.Proofs.YtljeiencnpnbkaaDoor
open Go.Ev

theorem sc_rows {E : Nat → Int} {n i q : Nat} (hq : q = (E i).toNat) : ∀ k, k < n → rowOb [.int .i64] 0 (upd (LF (scN E i)) q 0 [.sym .i64 (IntKind.i64.wrap (scN E i q + 1))] k) (LF (scN E (i + 1)) k) := fun k hk => by
  refine ⟨?_, trivial⟩
  show AV.sym .i64 (if k = (E i).toNat then _ else scN E i k) = .sym .i64 (avInt (upd (LF (scN E i)) q 0 [.sym .i64 (IntKind.i64.wrap (scN E i q + 1))] k 0))
  by_cases c : k = q
  · subst c; rw [if_pos hq]; simp [upd, nth, avInt]
  · rw [if_neg (fun e => c (e.trans hq.symm))]; simp [upd, c, LF, avInt]
noncomputable def fcU (n : Nat) (N : Nat) (E : Nat → Int) : St := ⟨[.top, .top, .top, .top, .top, .sym .i64 (Int.ofNat n), .top, .bool true, .top, .top, .top, .top, .ss 1 6 0 N none, .ss 1 7 0 n (some n), .top, .int .i64 0] ++ List.replicate 154 .top, ⟨[(7, .arr 1 [.int .i64] false n (LF (fun _ => 0))), (6, .arr 1 [.int .i64] false N (LF E)), (gnm 0, tabAO tab)], 8, gnm 0, [], [], [5, 3, 2], false⟩⟩
noncomputable def fcT (n : Nat) (N : Nat) (E : Nat → Int) (i : Nat) : St := ⟨[.top, .top, .top, .top, .top, .sym .i64 (Int.ofNat n), .top, .bool true, .top, .top, .top, .top, .ss 1 6 0 N none, .ss 1 7 0 n (some n), .top, .sym .i64 (Int.ofNat i)] ++ List.replicate 154 .top, ⟨[(7, .arr 1 [.int .i64] false n (LF (scN E i))), (6, .arr 1 [.int .i64] false N (LF E)), (gnm 0, tabAO tab)], 8, gnm 0, [], [], [7, 5, 3, 2], false⟩⟩
noncomputable def fcX (n : Nat) (N : Nat) (E : Nat → Int) (i : Nat) : St := ⟨[.top, .top, .top, .top, .top, .sym .i64 (Int.ofNat n), .top, .bool true, .top, .top, .top, .top, .ss 1 6 0 N none, .ss 1 7 0 n (some n)] ++ List.replicate 156 .top, ⟨[(7, .arr 1 [.int .i64] false n (LF (scN E i))), (6, .arr 1 [.int .i64] false N (LF E)), (gnm 0, tabAO tab)], 8, gnm 0, [], [], [7, 5, 3, 2], false⟩⟩
noncomputable abbrev fcL : Code := loopAt Tryd.prog 8 4
noncomputable def fcLP (n : Nat) (N : Nat) (E : Nat → Int) : Prop := LoopHolds Tryd.prog fcL (fcU n N E) (.exit 8) (fcX n N E N)
noncomputable def fdU (n : Nat) (N : Nat) (E : Nat → Int) (B : Nat → Int) : St := ⟨[.top, .top, .top, .top, .top, .sym .i64 (Int.ofNat n), .top, .bool true, .top, .top, .top, .top, .ss 1 6 0 N none, .ss 1 7 0 n (some n), .top, .top, .int .i64 0] ++ List.replicate 153 .top, ⟨[(7, .arr 1 [.int .i64] false n (LF B)), (6, .arr 1 [.int .i64] false N (LF E)), (gnm 0, tabAO tab)], 8, gnm 0, [], [], [7, 5, 3, 2], false⟩⟩
noncomputable def fdT (n : Nat) (N : Nat) (E : Nat → Int) (B : Nat → Int) (i : Nat) : St := ⟨[.top, .top, .top, .top, .top, .sym .i64 (Int.ofNat n), .top, .bool true, .top, .top, .top, .top, .ss 1 6 0 N none, .ss 1 7 0 n (some n), .top, .top, .sym .i64 (Int.ofNat i)] ++ List.replicate 153 .top, ⟨[(7, .arr 1 [.int .i64] false n (LF B)), (6, .arr 1 [.int .i64] false N (LF E)), (gnm 0, tabAO tab)], 8, gnm 0, [], [], [7, 5, 3, 2], false⟩⟩
noncomputable def fdX (n : Nat) (N : Nat) (E : Nat → Int) (B : Nat → Int) (i : Nat) : St := ⟨[.top, .top, .top, .top, .top, .sym .i64 (Int.ofNat n), .top, .bool true, .top, .top, .top, .top, .ss 1 6 0 N none, .ss 1 7 0 n (some n)] ++ List.replicate 156 .top, ⟨[(7, .arr 1 [.int .i64] false n (LF B)), (6, .arr 1 [.int .i64] false N (LF E)), (gnm 0, tabAO tab)], 8, gnm 0, [], [], [7, 5, 3, 2], false⟩⟩
noncomputable abbrev fdL : Code := loopAt Tryd.prog 8 5
noncomputable def fdLP (n : Nat) (N : Nat) (E : Nat → Int) (B : Nat → Int) : Prop := LoopHolds Tryd.prog fdL (fdU n N E B) (.exit 10) (fdX n N E B n)
end Go.Proofs.YtljeiencnpnbkaaDoor
