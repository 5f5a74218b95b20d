/-
  SnapsStill: the loop over the words: definitions.
-/
import Derived.Test.YtmlfmmnnbdlabaaNSm
set_option linter.unusedSimpArgs false
set_option linter.unusedVariables false
namespace Go.Proofs.Ytmlfmmnnbdlabaa
open Go.Ev

noncomputable def wlU (n : Nat) (g : Nat → Nat → AV) (A B : List (K3 × Int)) (X : MS) : St := ⟨[.top, .top, .top, .top, .top, .top, .top, .ss 4 4 0 A.length (some A.length), .top, .top, .top, .top, .top, .ss 4 3682564433883159603764838408931049046243722301798447888168702789108150520955258874243678853866642176794747519643505079885369413614121067184994593538037 0 B.length (some B.length), .int .i64 0] ++ List.replicate 93 .top, ⟨[(3, .cells 9 (.map 2 :: .sym .i64 X.st :: X.L.l)), (2, .map 128 X.M), (1, .arr 10 tSh true n g), (4, .arr 4 wSh false A.length (wdF (wdAt A))), (3682564433883159603764838408931049046243722301798447888168702789108150520955258874243678853866642176794747519643505079885369413614121067184994593538037, .arr 4 wSh false B.length (wdF (wdAt B)))], 3682564433883159603764838408931049046243722301798447888168702789108150520955258874243678853866642176794747519643505079885369413614121067184994593538038, gnm 0, [], [], [6, 3, 2], false⟩⟩
noncomputable def wlT (n : Nat) (g : Nat → Nat → AV) (A B : List (K3 × Int)) (X : MS) (i : Nat) : St := ⟨[.top, .top, .top, .top, .top, .top, .top, .ss 4 4 0 A.length (some A.length), .top, .top, .top, .top, .top, .ss 4 3682564433883159603764838408931049046243722301798447888168702789108150520955258874243678853866642176794747519643505079885369413614121067184994593538037 0 B.length (some B.length), .sym .i64 (Int.ofNat i)] ++ List.replicate 93 .top, ⟨[(1, .arr 10 tSh true n g), (4, .arr 4 wSh false A.length (wdF (wdAt A))), (3682564433883159603764838408931049046243722301798447888168702789108150520955258874243678853866642176794747519643505079885369413614121067184994593538037, .arr 4 wSh false B.length (wdF (wdAt B)))], 3682564433883159603764838408931049046243722301798447888168702789108150520955258874243678853866642176794747519643505079885369413614121067184994593538038, gnm 0, [], [], [6, 3, 2], false⟩⟩
noncomputable def wlX (n : Nat) (g : Nat → Nat → AV) (A B : List (K3 × Int)) (X : MS) : St := ⟨[] ++ List.replicate 108 .top, ⟨[(1, .arr 10 tSh true n g)], 3682564433883159603764838408931049046243722301798447888168702789108150520955258874243678853866642176794747519643505079885369413614121067184994593538038, gnm 0, [], [], [6, 3, 2], false⟩⟩
noncomputable abbrev wlL : Code := loopAt Try.prog 8 1
noncomputable def wlLP (n : Nat) (g : Nat → Nat → AV) (A B : List (K3 × Int)) (X : MS) : Prop := LoopHolds Try.prog wlL (wlU n g A B X) (.exit 2) (wlX n g A B X)

end Go.Proofs.Ytmlfmmnnbdlabaa
