/-
  RetiresParts: the third loop: definitions.
-/
import Derived.Test.YtmlfmmnnbdlabaaNrPf
set_option linter.unusedSimpArgs false
set_option linter.unusedVariables false
namespace Go.Proofs.Ytmlfmmnnbdlabaa
open Go.Ev
/-- Each of what was swept is added, and added again. -/
def reTwo (s : LS) (G : Nat → Ent) : Nat → LS
  | 0 => s
  | j + 1 => lsAdd (lsAdd (reTwo s G j) (G (0 + j))) (G (0 + j))

noncomputable def pd11U (n : Nat) (E : Nat → Ent) (G : List Ent) (S : List Ent) (M : List Int → Option Int) : St := ⟨[.top, .top, .top, .top, .bool false, .ptr 3 0 0, .top, .ss 6 6 0 n (some n), .ss 6 9 0 G.length (some G.length), .top, .top, .top, .top, .int .i64 0] ++ List.replicate 161 .top, ⟨[(3, .cells 2 [.ss 6 10 0 S.length none, .map 5]), (10, .arr 6 eSh false S.length (entF (entAt S))), (5, .map 119 M), (6, .arr 6 eSh false n (entF E)), (9, .arr 6 eSh false G.length (entF (entAt G))), (11, .arr 6 eSh false S.length (entF (entAt S)))], 12, gnm 0, [], [], [5, 3], false⟩⟩
noncomputable def pd11T (n : Nat) (E : Nat → Ent) (G : List Ent) (S : List Ent) (M : List Int → Option Int) (i : Nat) : St := ⟨[.top, .top, .top, .top, .bool false, .ptr 3 0 0, .top, .ss 6 6 0 n (some n), .ss 6 9 0 G.length (some G.length), .top, .top, .top, .top, .sym .i64 (Int.ofNat i)] ++ List.replicate 161 .top, ⟨[(3, .cells 2 [.ss 6 12 0 (reTwo ⟨S.length, entAt S, M⟩ (entAt G) i).n none, .map 5]), (12, .arr 6 eSh false (reTwo ⟨S.length, entAt S, M⟩ (entAt G) i).n (entF (reTwo ⟨S.length, entAt S, M⟩ (entAt G) i).E)), (5, .map 119 (reTwo ⟨S.length, entAt S, M⟩ (entAt G) i).M), (6, .arr 6 eSh false n (entF E)), (9, .arr 6 eSh false G.length (entF (entAt G)))], 13, gnm 0, [], [], [10, 5, 3], false⟩⟩
noncomputable def pd11X (n : Nat) (E : Nat → Ent) (G : List Ent) (S : List Ent) (M : List Int → Option Int) (i : Nat) : St := ⟨[.top, .top, .top, .top, .bool false, .ptr 3 0 0, .top, .ss 6 6 0 n (some n)] ++ List.replicate 167 .top, ⟨[(3, .cells 2 [.ss 6 12 0 (reTwo ⟨S.length, entAt S, M⟩ (entAt G) i).n none, .map 5]), (12, .arr 6 eSh false (reTwo ⟨S.length, entAt S, M⟩ (entAt G) i).n (entF (reTwo ⟨S.length, entAt S, M⟩ (entAt G) i).E)), (5, .map 119 (reTwo ⟨S.length, entAt S, M⟩ (entAt G) i).M), (6, .arr 6 eSh false n (entF E))], 13, gnm 0, [], [], [10, 5, 3], false⟩⟩
noncomputable abbrev pd11L : Code := loopAt Try.prog 3 2
noncomputable def pd11LP (n : Nat) (E : Nat → Ent) (G : List Ent) (S : List Ent) (M : List Int → Option Int) : Prop := LoopHolds Try.prog pd11L (pd11U n E G S M) (.exit 5) (pd11X n E G S M G.length)
noncomputable def pd10U (n : Nat) (E : Nat → Ent) (G : List Ent) (S : List Ent) (M : List Int → Option Int) : St := ⟨[.top, .top, .top, .top, .bool false, .ptr 3 0 0, .top, .ss 6 6 0 n (some n), .ss 6 9 0 G.length (some G.length), .top, .top, .top, .top, .int .i64 0] ++ List.replicate 161 .top, ⟨[(3, .cells 2 [.nils, .map 5]), (5, .map 119 M), (6, .arr 6 eSh false n (entF E)), (9, .arr 6 eSh false G.length (entF (entAt G)))], 11, gnm 0, [], [], [5, 3], false⟩⟩
noncomputable def pd10T (n : Nat) (E : Nat → Ent) (G : List Ent) (S : List Ent) (M : List Int → Option Int) (i : Nat) : St := ⟨[.top, .top, .top, .top, .bool false, .ptr 3 0 0, .top, .ss 6 6 0 n (some n), .ss 6 9 0 G.length (some G.length), .top, .top, .top, .top, .sym .i64 (Int.ofNat i)] ++ List.replicate 161 .top, ⟨[(3, .cells 2 [.ss 6 12 0 (reTwo ⟨S.length, entAt S, M⟩ (entAt G) i).n none, .map 5]), (12, .arr 6 eSh false (reTwo ⟨S.length, entAt S, M⟩ (entAt G) i).n (entF (reTwo ⟨S.length, entAt S, M⟩ (entAt G) i).E)), (5, .map 119 (reTwo ⟨S.length, entAt S, M⟩ (entAt G) i).M), (6, .arr 6 eSh false n (entF E)), (9, .arr 6 eSh false G.length (entF (entAt G)))], 13, gnm 0, [], [], [5, 3], false⟩⟩
noncomputable def pd10X (n : Nat) (E : Nat → Ent) (G : List Ent) (S : List Ent) (M : List Int → Option Int) (i : Nat) : St := ⟨[.top, .top, .top, .top, .bool false, .ptr 3 0 0, .top, .ss 6 6 0 n (some n)] ++ List.replicate 167 .top, ⟨[(3, .cells 2 [.ss 6 12 0 (reTwo ⟨S.length, entAt S, M⟩ (entAt G) i).n none, .map 5]), (12, .arr 6 eSh false (reTwo ⟨S.length, entAt S, M⟩ (entAt G) i).n (entF (reTwo ⟨S.length, entAt S, M⟩ (entAt G) i).E)), (5, .map 119 (reTwo ⟨S.length, entAt S, M⟩ (entAt G) i).M), (6, .arr 6 eSh false n (entF E))], 13, gnm 0, [], [], [5, 3], false⟩⟩
noncomputable abbrev pd10L : Code := loopAt Try.prog 3 2
noncomputable def pd10LP (n : Nat) (E : Nat → Ent) (G : List Ent) (S : List Ent) (M : List Int → Option Int) : Prop := LoopHolds Try.prog pd10L (pd10U n E G S M) (.exit 5) (pd10X n E G S M G.length)
end Go.Proofs.Ytmlfmmnnbdlabaa
