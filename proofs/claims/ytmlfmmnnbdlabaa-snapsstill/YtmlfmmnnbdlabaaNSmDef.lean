/-
  SnapsStill: the loop over the threads: definitions.
-/
import Derived.Test.YtmlfmmnnbdlabaaNSl
import Derived.Test.YtmlfmmnnbdlabaaNSn
import Derived.Test.YtmlfmmnnbdlabaaNYi
set_option linter.unusedSimpArgs false
set_option linter.unusedVariables false
namespace Go.Proofs.Ytmlfmmnnbdlabaa
open Go.Ev

noncomputable def slU (n al : Nat) (g G : Nat → Nat → AV) (A : List (K3 × Int)) (z : Int) (X : MS) : St := ⟨[.ss 10 1 0 n none, .top, .top, .top, .top, .ptr 3 0 0, .top, .ss 4 4 0 A.length (some A.length), .ptr 6 0 0, .top, .sym .i64 z, .int .i64 0] ++ List.replicate 96 .top, ⟨[(6, .cells 2 [.ss 10 5 0 al (some al), .sym .u64 0]), (3, .cells 9 (.map 2 :: .sym .i64 X.st :: X.L.l)), (2, .map 128 X.M), (1, .arr 10 tSh true n g), (4, .arr 4 wSh false A.length (wdF (wdAt A))), (5, .arr 10 tSh false al G)], 3682564433883159603764838408931049046243722301798447888168702789108150520955258874243678853866642176794747519643505079885369413614121067184994593538037, gnm 0, [], [], [6, 3, 2], false⟩⟩
noncomputable def slT (n al : Nat) (g G : Nat → Nat → AV) (A : List (K3 × Int)) (z : Int) (X : MS) (i : Nat) : St := ⟨[.ss 10 1 0 n none, .top, .top, .top, .top, .ptr 3 0 0, .top, .ss 4 4 0 A.length (some A.length), .ptr 6 0 0, .top, .sym .i64 z, .sym .i64 (Int.ofNat i)] ++ List.replicate 96 .top, ⟨[(6, .cells 2 [.ss 10 5 0 al (some al), .sym .u64 0]), (3, .cells 9 (.map 2 :: .sym .i64 X.st :: X.L.l)), (2, .map 128 X.M), (1, .arr 10 tSh true n g), (4, .arr 4 wSh false A.length (wdF (wdAt A))), (5, .arr 10 tSh false al G)], 3682564433883159603764838408931049046243722301798447888168702789108150520955258874243678853866642176794747519643505079885369413614121067184994593538037, gnm 0, [], [], [6, 3, 2], false⟩⟩
noncomputable def slX (n al : Nat) (g G : Nat → Nat → AV) (A : List (K3 × Int)) (z : Int) (X : MS) : St := ⟨[.top, .top, .top, .top, .top, .ptr 3 0 0, .top, .ss 4 4 0 A.length (some A.length)] ++ List.replicate 100 .top, ⟨[(3, .cells 9 (.map 2 :: .sym .i64 X.st :: X.L.l)), (2, .map 128 X.M), (1, .arr 10 tSh true n g), (4, .arr 4 wSh false A.length (wdF (wdAt A)))], 3682564433883159603764838408931049046243722301798447888168702789108150520955258874243678853866642176794747519643505079885369413614121067184994593538037, gnm 0, [], [], [6, 3, 2], false⟩⟩
noncomputable def szU (n al : Nat) (g G : Nat → Nat → AV) (A : List (K3 × Int)) (z : Int) (X : MS) : St := ⟨[.ss 10 1 0 n none, .top, .top, .top, .top, .ptr 3 0 0, .top, .ss 4 4 0 A.length (some A.length), .ptr 6 0 0, .top, .sym .i64 z, .int .i64 0] ++ List.replicate 96 .top, ⟨[(6, .cells 2 [.xs 10 5 0 0 (some 0), .sym .u64 0]), (3, .cells 9 (.map 2 :: .sym .i64 X.st :: X.L.l)), (2, .map 128 X.M), (1, .arr 10 tSh true n g), (4, .arr 4 wSh false A.length (wdF (wdAt A))), (5, .arr 10 tSh false 0 G)], 3682564433883159603764838408931049046243722301798447888168702789108150520955258874243678853866642176794747519643505079885369413614121067184994593538037, gnm 0, [], [], [6, 3, 2], false⟩⟩
noncomputable abbrev slL : Code := loopAt Try.prog 8 0
noncomputable def slLP (n al : Nat) (g G : Nat → Nat → AV) (A : List (K3 × Int)) (z : Int) (X : MS) : Prop := LoopHolds Try.prog slL (slU n al g G A z X) (.exit 0) (slX n al g G A z X)
noncomputable def szLP (n al : Nat) (g G : Nat → Nat → AV) (A : List (K3 × Int)) (z : Int) (X : MS) : Prop := LoopHolds Try.prog slL (szU n al g G A z X) (.exit 0) (slX n al g G A z X)
/-- A row is what it ought to be. -/
def WantR (n : Nat) (g G : Nat → Nat → AV) (i : Nat) : Prop := ∀ j, j < 10 → avInt (G (0 + i) j) = if i < n ∧ avInt (g (0 + i) 0) ≠ 0 then avInt (g (0 + i) j) else 0

end Go.Proofs.Ytmlfmmnnbdlabaa
