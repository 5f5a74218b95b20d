/-
  QTkDef and what follows it.
-/
import Derived.Test.YtmlfmmnnbdlabaaDoorEvDoor
import Derived.Test.YtmlfmmnnbdlabaaDoorQMemOps
import Derived.Test.YtmlfmmnnbdlabaaDoorQBv
/-
  Threads' rows.
-/
set_option linter.unusedSimpArgs false
set_option linter.unusedVariables false
namespace Go.Proofs.YtmlfmmnnbdlabaaDoor
open Go.Ev
def tSh : List CK := [.int .u64, .int .u64, .int .u64, .int .u64, .int .u64, .int .u64, .int .u64, .int .u64, .int .u64, .int .u64]
noncomputable def EMo3 : Env := envG Tryd.prog memSpecs
theorem EMo3_ok : EnvOk EMo3 := envG_ok mgood memSpecs_ok
end Go.Proofs.YtmlfmmnnbdlabaaDoor

/-
  BarriersAll: the loop of run: definitions.
-/
set_option linter.unusedSimpArgs false
set_option linter.unusedVariables false
namespace Go.Proofs.YtmlfmmnnbdlabaaDoor
open Go.Ev

structure RQ where
  S : MS
  x : BQ
inductive RJ where
  | b
  | w (k : Nat)
  | o
def rnZ (lk al : Int) (X : MS) : RQ := ⟨mLoad X 5 0 0, ⟨lk, 0, 0, -1, 0, decide (0 < al)⟩⟩
def rnS (nb al : Int) (y : RQ) : RQ := ⟨mLoad y.S 8 y.x.th (bpFld y.x.at_), bpS nb al ⟨y.x.lk, y.x.th, y.x.at_, y.x.wt, y.x.en, true⟩ (mget y.S.M (key 8 y.x.th (bpFld y.x.at_)))⟩
def rnN (nb lk al : Int) (X : MS) : Nat → RQ
  | 0 => rnZ lk al X
  | k + 1 => rnS nb al (rnN nb lk al X k)
noncomputable def EBq : Env := envG Tryd.prog ((11, bsSP) :: memSpecs)
theorem EBq_ok : EnvOk EBq := envG_ok mgood ⟨bsSP_ok, memSpecs_ok⟩
noncomputable def rnU (nb lk al : Int) (X : MS) : St := ⟨[.ptr 1 0 0, .ptr 3 0 0, .top, .top, .int .i64 0, .int .i64 0] ++ List.replicate 13 .top, ⟨[(gnm 0, tabAO tab), (1, .cells 9 (.map 2 :: .sym .i64 X.st :: X.L.l)), (2, .map 76 X.M), (3, .cells 9 [.bool true, .bool true, .sym .u64 nb, .sym .i64 lk, .int .i64 0, .int .i64 0, .int .i64 (-1), .int .i64 (-1), .int .i64 0])], 4, gnm 0, [], [], [], false⟩⟩
noncomputable def rnW (nb lk al : Int) (k : Nat) (y : RQ) : St := ⟨[.ptr 1 0 0, .ptr 3 0 0, .top, .top, .top, .sym .i64 (Int.ofNat (k + 1))] ++ List.replicate 13 .top, ⟨[(gnm 0, tabAO tab), (1, .cells 9 (.map 2 :: .sym .i64 y.S.st :: y.S.L.l)), (2, .map 76 y.S.M), (3, .cells 9 [.bool true, .bool true, .sym .u64 nb, .sym .i64 y.x.lk, .sym .i64 y.x.th, .sym .i64 al, .sym .i64 y.x.at_, .sym .i64 y.x.wt, .sym .i64 y.x.en])], 4, gnm 0, [], [], [1, 2, 3], false⟩⟩
noncomputable def rnO (nb lk al : Int) (k : Nat) (y : RQ) : St := ⟨[.ptr 1 0 0, .ptr 3 0 0, .top, .top, .top, .sym .i64 (Int.ofNat (k + 1))] ++ List.replicate 13 .top, ⟨[(gnm 0, tabAO tab), (1, .cells 9 (.map 2 :: .sym .i64 y.S.st :: y.S.L.l)), (2, .map 76 y.S.M), (3, .cells 9 [.bool true, .bool false, .sym .u64 nb, .sym .i64 y.x.lk, .sym .i64 y.x.th, .sym .i64 al, .sym .i64 y.x.at_, .sym .i64 y.x.wt, .sym .i64 y.x.en])], 4, gnm 0, [], [], [1, 2, 3], false⟩⟩
noncomputable def rnX (nb lk al : Int) (k : Nat) (y : RQ) : St := ⟨[.ptr 1 0 0, .ptr 3 0 0, .top, .top, .top, .sym .i64 (Int.ofNat (k + 1))] ++ List.replicate 13 .top, ⟨[(gnm 0, tabAO tab), (1, .cells 9 (.map 2 :: .sym .i64 y.S.st :: y.S.L.l)), (2, .map 76 y.S.M), (3, .cells 9 [.bool true, .bool false, .sym .u64 nb, .sym .i64 y.x.lk, .sym .i64 y.x.th, .sym .i64 al, .sym .i64 y.x.at_, .sym .i64 y.x.wt, .sym .i64 y.x.en])], 4, gnm 0, [], [], [1, 2, 3], false⟩⟩
noncomputable def rnT (nb lk al : Int) (K : Nat) (X : MS) : RJ → St
  | .b => rnU nb lk al X
  | .w k => rnW nb lk al k (rnN nb lk al X k)
  | .o => rnO nb lk al K (rnN nb lk al X K)
def rnMu (K : Nat) : RJ → Nat
  | .b => K + 2
  | .w k => K + 1 - k
  | .o => 0
def rnI (K : Nat) : RJ → Prop
  | .b => True
  | .w k => k < K
  | .o => True
noncomputable abbrev rnL : Code := loopAt Tryd.prog 20 0
noncomputable def rnLP (nb lk al : Int) (X : MS) (K : Nat) (y : RQ) : Prop := LoopHolds Tryd.prog rnL (rnU nb lk al X) (.exit 0) (rnX nb lk al K y)
structure RnOk (nb lk al : Int) (X : MS) (K : Nat) : Prop where
  w0 : 0 ≤ mget X.M (key 5 0 0)
  ala : al = 4 * (if 4 < mget X.M (key 5 0 0) then 4 else mget X.M (key 5 0 0))
  pre : ∀ k, k < K → BpPre nb al ⟨(rnN nb lk al X k).x.lk, (rnN nb lk al X k).x.th, (rnN nb lk al X k).x.at_, (rnN nb lk al X k).x.wt, (rnN nb lk al X k).x.en, true⟩
  go : ∀ k, k + 1 < K → (rnN nb lk al X (k + 1)).x.on = true
  ov : ∀ k, k + 1 = K → (rnN nb lk al X (k + 1)).x.on = false
theorem rnN_succ (nb lk al : Int) (X : MS) (k : Nat) : rnN nb lk al X (k + 1) = rnS nb al (rnN nb lk al X k) := rfl
theorem rnN_zero (nb lk al : Int) (X : MS) : rnN nb lk al X 0 = rnZ lk al X := rfl
theorem rn_al {b al : Int} (h0 : 0 ≤ b) (ha : al = 4 * (if 4 < b then 4 else b)) : IntKind.i64.wrap (IntKind.i64.wrap (if 4 < b then 4 else b) * 4) = al ∧ 0 ≤ al ∧ al ≤ 16 := by
  have hq : 0 ≤ (if 4 < b then (4 : Int) else b) ∧ (if 4 < b then (4 : Int) else b) ≤ 4 := by split <;> omega
  refine ⟨?_, by omega, by omega⟩
  rw [i64w (x := if 4 < b then 4 else b) (by omega) (by omega), i64w (by omega) (by omega)]; omega

end Go.Proofs.YtmlfmmnnbdlabaaDoor
