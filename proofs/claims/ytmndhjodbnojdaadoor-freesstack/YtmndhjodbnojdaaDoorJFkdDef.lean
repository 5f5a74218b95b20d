/-
  FreesStack: the last loop: pops: definitions.
-/
import Derived.Test.YtmndhjodbnojdaaDoorJFkp
set_option linter.unusedSimpArgs false
set_option linter.unusedVariables false
namespace Go.Proofs.YtmndhjodbnojdaaDoor
open Go.Ev

noncomputable def fkD (S : MS) : Nat → MS
  | 0 => S
  | i + 1 => ppS3 (fkD S i)
theorem fkD_u {S : MS} (h : U64 S) : ∀ i, U64 (fkD S i)
  | 0 => h
  | i + 1 => (ppS_u (fkD_u h i)).2.2
theorem dn_0 {k : Nat} (h : k ≤ 1000) : IntKind.i64.wrap (Int.ofNat k - 1) = Int.ofNat k - 1 - 0 := by
  rw [i64w (by simp; omega) (by simp; omega)]; simp
theorem dn_1 {k i : Nat} (h : k ≤ 1000) (hi : i < k) : IntKind.i64.wrap (Int.ofNat k - 1 - Int.ofNat i - 1) = Int.ofNat k - 1 - Int.ofNat (i + 1) := by
  rw [i64w (by simp; omega) (by simp; omega)]; simp; omega
theorem not_f {b : Bool} (h : b = true) : (!b) = false := by rw [h]; rfl
theorem bne_f {a b : Int} (h : a = b) : (a != b) = false := by rw [h]; simp
noncomputable def fkdU (n : Nat) (k : Nat) (E : Nat → Int) (S : MS) : St := ⟨[.top, .top, .bool false, .ss 1 2 0 k none, .top, .top, .top, .ptr 4 0 0, .top, .top, .top, .top, .top, .top, .top, .top, .top, .top, .top, .top, .top, .top, .top, .top, .top, .top, .top, .top, .sym .i64 (IntKind.i64.wrap (Int.ofNat k - 1))] ++ List.replicate 193 .top, ⟨[(gnm 0, tabAO tab), (2, .arr 1 [.int .i64] false n (LF E)), (4, .cells 9 (.map 3 :: lsL S.st S.L)), (3, .map 115 S.M)], 5, gnm 0, [], [], [4, 3], false⟩⟩
noncomputable def fkdT (n : Nat) (k : Nat) (E : Nat → Int) (S : MS) (i : Nat) : St := ⟨[.top, .top, .bool false, .ss 1 2 0 k none, .top, .top, .top, .ptr 4 0 0, .top, .top, .top, .top, .top, .top, .top, .top, .top, .top, .top, .top, .top, .top, .top, .top, .top, .top, .top, .top, .sym .i64 (Int.ofNat k - 1 - Int.ofNat i)] ++ List.replicate 193 .top, ⟨[(gnm 0, tabAO tab), (2, .arr 1 [.int .i64] false n (LF E)), (4, .cells 9 (.map 3 :: lsL (fkD S i).st (fkD S i).L)), (3, .map 115 (fkD S i).M)], 5, gnm 0, [], [], [4, 3], false⟩⟩
noncomputable def fkdX (n : Nat) (k : Nat) (E : Nat → Int) (S : MS) (i : Nat) : St := ⟨[.top, .top, .bool false] ++ List.replicate 219 .top, ⟨[(gnm 0, tabAO tab), (4, .cells 9 (.map 3 :: lsL (fkD S i).st (fkD S i).L)), (3, .map 115 (fkD S i).M)], 5, gnm 0, [], [], [4, 3], false⟩⟩
noncomputable abbrev fkdL : Code := loopAt Tryd.prog 3 8
noncomputable def fkdLP (n : Nat) (k : Nat) (E : Nat → Int) (S : MS) : Prop := LoopHolds Tryd.prog fkdL (fkdU n k E S) (.exit 16) (fkdX n k E S k)
noncomputable def fkeU (n : Nat) (k : Nat) (E : Nat → Int) (S : MS) (o : PO) (p : PO) (q : PO) (b : UO) (a : PO) : St := ⟨[.top, .top, .bool false, .ss 1 2 0 k none, .top, .top, .top, .ptr 4 0 0, .top, .top, .top, .top, .top, .top, .top, .top, .top, .top, .top, .top, .top, .top, .top, .top, .top, .top, .top, .top, .sym .i64 (IntKind.i64.wrap (Int.ofNat k - 1))] ++ List.replicate 193 .top, ⟨[(6136670912874273844042209381423295534262744420288187202939989966700104950239495246519741634385407946643773617249971327143673958682954977822289197793279, .cells 5 [.sym .i64 a.ln, .sym .u64 a.h, .sym .i64 a.nx, .sym .i64 a.sl, .symb a.ok]), (4091426085015145738293348961311519623640227697739564489739028294424204708331961217042075584797073847241492372466337948099232025884788812488130030469118, .cells 3 [.sym .i64 b.ln, .sym .u64 b.h, .sym .i64 b.sl]), (7, .cells 5 [.sym .i64 q.ln, .sym .u64 q.h, .sym .i64 q.nx, .sym .i64 q.sl, .symb q.ok]), (6, .cells 5 [.sym .i64 p.ln, .sym .u64 p.h, .sym .i64 p.nx, .sym .i64 p.sl, .symb p.ok]), (5, .cells 5 [.sym .i64 o.ln, .sym .u64 o.h, .sym .i64 o.nx, .sym .i64 o.sl, .symb o.ok]), (gnm 0, tabAO tab), (2, .arr 1 [.int .i64] false n (LF E)), (4, .cells 9 (.map 3 :: lsL S.st S.L)), (3, .map 115 S.M)], 6136670912874273844042209381423295534262744420288187202939989966700104950239495246519741634385407946643773617249971327143673958682954977822289197793280, gnm 0, [], [], [6136670912874273844042209381423295534262744420288187202939989966700104950239495246519741634385407946643773617249971327143673958682954977822289197793279, 4091426085015145738293348961311519623640227697739564489739028294424204708331961217042075584797073847241492372466337948099232025884788812488130030469118, 7, 6, 5, 4, 3], false⟩⟩
noncomputable def fkeT (n : Nat) (k : Nat) (E : Nat → Int) (S : MS) (o : PO) (p : PO) (q : PO) (b : UO) (a : PO) (i : Nat) : St := ⟨[.top, .top, .bool false, .ss 1 2 0 k none, .top, .top, .top, .ptr 4 0 0, .top, .top, .top, .top, .top, .top, .top, .top, .top, .top, .top, .top, .top, .top, .top, .top, .top, .top, .top, .top, .sym .i64 (Int.ofNat k - 1 - Int.ofNat i)] ++ List.replicate 193 .top, ⟨[(gnm 0, tabAO tab), (2, .arr 1 [.int .i64] false n (LF E)), (4, .cells 9 (.map 3 :: lsL (fkD S i).st (fkD S i).L)), (3, .map 115 (fkD S i).M)], 6136670912874273844042209381423295534262744420288187202939989966700104950239495246519741634385407946643773617249971327143673958682954977822289197793280, gnm 0, [], [], [6136670912874273844042209381423295534262744420288187202939989966700104950239495246519741634385407946643773617249971327143673958682954977822289197793279, 4091426085015145738293348961311519623640227697739564489739028294424204708331961217042075584797073847241492372466337948099232025884788812488130030469118, 7, 6, 5, 4, 3], false⟩⟩
noncomputable def fkeX (n : Nat) (k : Nat) (E : Nat → Int) (S : MS) (o : PO) (p : PO) (q : PO) (b : UO) (a : PO) (i : Nat) : St := ⟨[.top, .top, .bool false] ++ List.replicate 219 .top, ⟨[(gnm 0, tabAO tab), (4, .cells 9 (.map 3 :: lsL (fkD S i).st (fkD S i).L)), (3, .map 115 (fkD S i).M)], 6136670912874273844042209381423295534262744420288187202939989966700104950239495246519741634385407946643773617249971327143673958682954977822289197793280, gnm 0, [], [], [6136670912874273844042209381423295534262744420288187202939989966700104950239495246519741634385407946643773617249971327143673958682954977822289197793279, 4091426085015145738293348961311519623640227697739564489739028294424204708331961217042075584797073847241492372466337948099232025884788812488130030469118, 7, 6, 5, 4, 3], false⟩⟩
noncomputable abbrev fkeL : Code := loopAt Tryd.prog 3 8
noncomputable def fkeLP (n : Nat) (k : Nat) (E : Nat → Int) (S : MS) (o : PO) (p : PO) (q : PO) (b : UO) (a : PO) : Prop := LoopHolds Tryd.prog fkeL (fkeU n k E S o p q b a) (.exit 16) (fkeX n k E S o p q b a k)
end Go.Proofs.YtmndhjodbnojdaaDoor
