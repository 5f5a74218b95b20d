/-
  HistsOrder: definitions.
-/
import Derived.Test.YtnecknppajbcdaaHLaw2
set_option linter.unusedSimpArgs false
set_option linter.unusedVariables false
namespace Go.Proofs.Ytnecknppajbcdaa
open Go.Ev
section
variable (m : Nat) (f : Nat → Nat → AV)
def orHd : List AV := [.ss 8 1 0 m none, .top, .bool false, .ptr 2 0 0]
noncomputable def orU : St := ⟨orHd m ++ [.int .i64 0] ++ List.replicate 197 .top, ⟨[(2, .cells 3 [.nils, .nilm, .int .i64 0]), (1, .arr 8 aSh true m f)], 3, gnm 0, [], [], [], false⟩⟩
variable (A : Nat → Ac)
noncomputable def orHA : List (Nat × AO) := [(2, .cells 3 [.nils, .nilm, .int .i64 0]), (1, .arr 8 aSh true m (acF A))]
noncomputable def orA (i : Nat) : St := ⟨orHd m ++ [.sym .i64 (Int.ofNat i)] ++ List.replicate 197 .top, ⟨orHA m A, 5, gnm 0, [], [], [2], false⟩⟩
noncomputable def orHB (S : HS) : List (Nat × AO) := [(2, .cells 3 [.ss 9 3 0 S.n none, .map 4, .sym .i64 S.last]), (3, .arr 9 cSh false S.n (cF S.C)), (4, .map 76 S.U), (1, .arr 8 aSh true m (acF A))]
noncomputable def orB (i : Nat) (S : HS) : St := ⟨orHd m ++ [.sym .i64 (Int.ofNat i)] ++ List.replicate 197 .top, ⟨orHB m A S, 5, gnm 0, [], [], [2], false⟩⟩
noncomputable def orXA : St := ⟨orHd m ++ List.replicate 198 .top, ⟨orHA m A, 5, gnm 0, [], [], [2], false⟩⟩
noncomputable def orXB (S : HS) : St := ⟨orHd m ++ List.replicate 198 .top, ⟨orHB m A S, 5, gnm 0, [], [], [2], false⟩⟩
noncomputable abbrev lcR0 := loopAt Try.prog 9 0
noncomputable abbrev lcR1 := loopAt Try.prog 9 1
noncomputable abbrev lcR2 := loopAt Try.prog 9 2
end
-- the inner loop
section
variable (ii n : Nat) (C : Nat → Cl)
def o2cells (c : Cl) : List AV := [.sym .i64 c.th, .sym .u8 c.op, .sym .u64 c.ky, .sym .u64 c.va, .sym .u8 c.an, .sym .u64 c.gt, .sym .i64 c.fr, .sym .i64 c.pt, .sym .i64 c.to]
noncomputable def iH : List (Nat × AO) := [(1, .arr 9 cSh false n (cF C)), (2, .cells 9 (o2cells (C (0 + ii))))]
def iTm : List AV := [.top, .top, .bool false, .ptr 3 0 0, .top, .top, .top, .top, .ss 9 1 0 n (some n), .sym .i64 (Int.ofNat ii), .ptr 2 0 0]
noncomputable def iU : St := ⟨iTm ii n ++ [.int .i64 0] ++ List.replicate 190 .top, ⟨iH ii n C, 4, gnm 0, [], [], [], false⟩⟩
noncomputable def iT (k : Nat) : St := ⟨iTm ii n ++ [.sym .i64 (Int.ofNat k)] ++ List.replicate 190 .top, ⟨iH ii n C, 4, gnm 0, [], [], [], false⟩⟩
noncomputable def iS : St := ⟨iTm ii n ++ List.replicate 191 .top, ⟨iH ii n C, 4, gnm 0, [], [], [], false⟩⟩
-- the loop over all calls
variable (S : HS)
noncomputable def jH : List (Nat × AO) := [(1, .cells 3 [.ss 9 2 0 S.n none, .map 3, .sym .i64 S.last]), (2, .arr 9 cSh false S.n (cF S.C)), (3, .map 76 S.U), (4, .arr 9 cSh false S.n (cF S.C))]
def jTm : List AV := [.top, .top, .bool false, .ptr 1 0 0, .top, .top, .top, .top, .ss 9 4 0 S.n (some S.n)]
noncomputable def jU : St := ⟨jTm S ++ [.int .i64 0] ++ List.replicate 192 .top, ⟨jH S, 5, gnm 0, [], [], [], false⟩⟩
noncomputable def jT (i : Nat) : St := ⟨jTm S ++ [.sym .i64 (Int.ofNat i)] ++ List.replicate 192 .top, ⟨jH S, 5, gnm 0, [], [], [], false⟩⟩
def jX : List AV := [.top, .top, .bool false] ++ List.replicate 199 .top
noncomputable def jS : St := ⟨jX, ⟨[], 5, gnm 0, [], [], [], false⟩⟩
end
end Go.Proofs.Ytnecknppajbcdaa
