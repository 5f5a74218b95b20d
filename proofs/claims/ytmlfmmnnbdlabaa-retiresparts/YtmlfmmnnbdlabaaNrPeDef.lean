/-
  RetiresParts: the entries are added: definitions.
-/
import Derived.Test.YtmlfmmnnbdlabaaNrPdDef
set_option linter.unusedSimpArgs false
set_option linter.unusedVariables false
namespace Go.Proofs.Ytmlfmmnnbdlabaa
open Go.Ev

theorem one_rowsN {n : Nat} {E : Nat → Ent} {z : Nat → Nat → AV} (hn : n = 1) (hE : E 0 = entOf (z 0)) : ∀ i, i < n → rowOb eSh 0 (z i) (entF E i) := fun i hi => by
  obtain rfl : i = 0 := by omega
  show rowOb eSh 0 (z 0) (entR (E 0))
  exact row_ent hE.symm
noncomputable def paU (m q : Nat) (f g : Nat → Nat → AV) : St := ⟨[.ss 6 1 0 m none, .ss 1 2 0 q none, .top, .top, .bool false, .ptr 3 0 0, .int .i64 0] ++ List.replicate 168 .top, ⟨[(3, .cells 2 [.nils, .nilm]), (1, .arr 6 eSh true m f), (2, .arr 1 [.bool] true q g)], 4, gnm 0, [], [], [], false⟩⟩
noncomputable def paA (m q : Nat) (f g : Nat → Nat → AV) (i : Nat) : St := ⟨[.ss 6 1 0 m none, .ss 1 2 0 q none, .top, .top, .bool false, .ptr 3 0 0, .sym .i64 (Int.ofNat i)] ++ List.replicate 168 .top, ⟨[(3, .cells 2 [.nils, .nilm]), (1, .arr 6 eSh true m f), (2, .arr 1 [.bool] true q g)], 4, gnm 0, [], [], [], false⟩⟩
noncomputable def paB (m q : Nat) (f g : Nat → Nat → AV) (n : Nat) (E : Nat → Ent) (M : List Int → Option Int) (i : Nat) : St := ⟨[.ss 6 1 0 m none, .ss 1 2 0 q none, .top, .top, .bool false, .ptr 3 0 0, .sym .i64 (Int.ofNat i)] ++ List.replicate 168 .top, ⟨[(3, .cells 2 [.ss 6 4 0 n none, .map 5]), (4, .arr 6 eSh false n (entF E)), (5, .map 119 M), (1, .arr 6 eSh true m f), (2, .arr 1 [.bool] true q g)], 6, gnm 0, [], [], [3], false⟩⟩
noncomputable def paXA (m q : Nat) (f g : Nat → Nat → AV) : St := ⟨[.ss 6 1 0 m none, .ss 1 2 0 q none, .top, .top, .bool false, .ptr 3 0 0] ++ List.replicate 169 .top, ⟨[(3, .cells 2 [.nils, .nilm]), (1, .arr 6 eSh true m f), (2, .arr 1 [.bool] true q g)], 4, gnm 0, [], [], [], false⟩⟩
noncomputable def paXB (m q : Nat) (f g : Nat → Nat → AV) (n : Nat) (E : Nat → Ent) (M : List Int → Option Int) : St := ⟨[.ss 6 1 0 m none, .ss 1 2 0 q none, .top, .top, .bool false, .ptr 3 0 0] ++ List.replicate 169 .top, ⟨[(3, .cells 2 [.ss 6 4 0 n none, .map 5]), (4, .arr 6 eSh false n (entF E)), (5, .map 119 M), (1, .arr 6 eSh true m f), (2, .arr 1 [.bool] true q g)], 6, gnm 0, [], [], [3], false⟩⟩
noncomputable abbrev paL : Code := loopAt Try.prog 3 0
noncomputable def paLA (m q : Nat) (f g : Nat → Nat → AV) : Prop := LoopHolds Try.prog paL (paU m q f g) (.exit 0) (paXA m q f g)
noncomputable def paLB (m q : Nat) (f g : Nat → Nat → AV) (n : Nat) (E : Nat → Ent) (M : List Int → Option Int) : Prop := LoopHolds Try.prog paL (paU m q f g) (.exit 0) (paXB m q f g n E M)
inductive I2 where
  | a (i : Nat)
  | b (i : Nat)

end Go.Proofs.Ytmlfmmnnbdlabaa
