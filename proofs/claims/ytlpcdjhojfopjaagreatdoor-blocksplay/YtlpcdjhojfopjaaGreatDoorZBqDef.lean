/-
  ZBqDef and what follows it.
-/
import Derived.Test.YtlpcdjhojfopjaaGreatDoorZBpDef
import Derived.Test.YtlpcdjhojfopjaaGreatDoorZWd
import Derived.Test.YtlpcdjhojfopjaaGreatDoorZR4
import Derived.Test.YtlpcdjhojfopjaaGreatDoorZSww
import Derived.Test.YtlpcdjhojfopjaaGreatDoorZBeg
/-
  law11.BlocksPlay: the states of its loop.
-/
set_option linter.unusedSimpArgs false
set_option linter.unusedVariables false
namespace Go.Proofs.YtlpcdjhojfopjaaGreatDoor
open Go.Ev
noncomputable def Ebp : Env := envG Tryz.prog ([(16, locSP pstSpec), (23, locSP smeSpec), (275, tabSP 0 tab blkS), (163, locSP rbkSpec)] ++ memSP)
theorem Ebp_ok : EnvOk Ebp := envG_ok mgood ⟨locSP_ok pstSpec_ok, locSP_ok smeSpec_ok, tabSP_ok rfl blkS_ok, locSP_ok rbkSpec_ok, memSP_ok⟩
def asSh : List CK := [.int .u8, .int .u64, .int .u8, .int .i64, .int .i64, .int .u64]
noncomputable def bpF : Fam := ⟨fam0, 2, 3, [.val, .val, .val], 8⟩
section
variable (m : Nat) (f : Nat → Nat → AV) (q : Nat) (h : Nat → Nat → AV)
noncomputable def bpU : St := ⟨[.ss 6 1 0 m none, .top, .top, .top, .top, .ptr 7 0 0, .nils, .int .i64 0] ++ List.replicate 82 .top, ⟨[(7, .cells 2 [.ptr 3 0 0, .ptr 5 0 0]), (gnm 0, tabAO tab), (1, .arr 6 asSh true m f), (2, .arr 4 wSh true q (wdF (bgW h))), (3, .cells 9 (.map 4 :: lsL (msN (bgW h) q).st (msN (bgW h) q).L)), (4, .map 250 (msN (bgW h) q).M), (5, .cells 9 (.ss 4 6 0 (rsN (bgW h) q).D.n none :: lsL (rsN (bgW h) q).st (rsN (bgW h) q).L)), (6, .arr 4 wSh false (rsN (bgW h) q).D.n (wdF (rsN (bgW h) q).D.W))], 8, gnm 0, [], [], [7], false⟩⟩
noncomputable def bpT (i : Nat) (x : GX BO) : FSt := ⟨[.ss 6 1 0 m none, .top, .top, .top, .top, .ptr 7 0 0, .ss 3 8 0 x.n none, .sym .i64 (Int.ofNat i)] ++ List.replicate 82 .top, [(7, .cells 2 [.ptr 3 0 0, .ptr 5 0 0]), (gnm 0, tabAO tab), (1, .arr 6 asSh true m f), (3, .cells 9 (.map 4 :: lsL x.S.st x.S.L)), (4, .map 250 x.S.M), (5, .cells 9 (.ss 4 9 0 x.R.D.n none :: lsL x.R.st x.R.L)), (9, .arr 4 wSh false x.R.D.n (wdF x.R.D.W))], x.n, fun i => bpMb (x.O i), [3, 4, 5, 6, 7]⟩
noncomputable def bpX (S : MS) (R : RS) : St := ⟨[.ss 6 1 0 m none, .top, .top, .top, .top, .ptr 7 0 0] ++ List.replicate 84 .top, ⟨[(7, .cells 2 [.ptr 3 0 0, .ptr 5 0 0]), (gnm 0, tabAO tab), (1, .arr 6 asSh true m f), (3, .cells 9 (.map 4 :: lsL S.st S.L)), (4, .map 250 S.M), (5, .cells 9 (.ss 4 9 0 R.D.n none :: lsL R.st R.L)), (9, .arr 4 wSh false R.D.n (wdF R.D.W))], 10, gnm 0, [], [], [3, 4, 5, 6, 7], false⟩⟩
noncomputable abbrev bpL : Code := loopAt Tryz.prog 4 0
noncomputable def bpLP : Prop := LoopHolds Tryz.prog bpL (bpU m f q h) (.exit 0) (bpX m f (bpN f h q m).S (bpN f h q m).R)
end
theorem bpMb_f (o : BO) : MbF bpF (bpMb o) := by
  obtain ⟨t, b, e⟩ := o
  match t with
  | 0 => exact ⟨rfl, rfl, obj2 (by decide) (fun b => ⟨_, rfl⟩) (fun b => ⟨_, rfl⟩)⟩
  | 1 => exact ⟨rfl, rfl, obj2 (by decide) (fun b => ⟨_, rfl⟩) (fun b => ⟨_, rfl⟩)⟩
  | 2 => exact ⟨rfl, rfl, obj2 (by decide) (fun b => ⟨_, rfl⟩) (fun b => ⟨_, rfl⟩)⟩
  | 3 => exact ⟨rfl, rfl, obj2 (by decide) (fun b => ⟨_, rfl⟩) (fun b => ⟨_, rfl⟩)⟩
  | 4 => exact ⟨rfl, rfl, obj2 (by decide) (fun b => ⟨_, rfl⟩) (fun b => ⟨_, rfl⟩)⟩
  | 5 => exact ⟨rfl, rfl, obj2 (by decide) (fun b => ⟨_, rfl⟩) (fun b => ⟨_, rfl⟩)⟩
  | 6 => exact ⟨rfl, rfl, obj2 (by decide) (fun b => ⟨_, rfl⟩) (fun b => ⟨_, rfl⟩)⟩
  | 7 => exact ⟨rfl, rfl, obj2 (by decide) (fun b => ⟨_, rfl⟩) (fun b => ⟨_, rfl⟩)⟩
  | k + 8 => exact ⟨rfl, rfl, obj2 (by decide) (fun b => ⟨_, rfl⟩) (fun b => ⟨_, rfl⟩)⟩
section
variable {m : Nat} {f : Nat → Nat → AV} {ii : Nat} {x : GX BO}
theorem bpOk (hn : x.n ≤ 1000) : FOk bpF (bpT m f ii x) ∧ (bpT m f ii x).n ≤ 1000000 := ⟨⟨by kernel_rfl, by kernel_rfl, fun i _ => mbOk_of rfl rfl (bpMb_f _)⟩, by show x.n ≤ 1000000; omega⟩
end
theorem bpFam : FamOk bpF := ⟨by show 1000 ≤ fam0; unfold fam0; omega, by show fam0 + 100000200 < gnm 0; unfold fam0 gnm; omega, by show 2 ≤ 100; omega, by show 8 < 900; omega, rfl⟩
end Go.Proofs.YtlpcdjhojfopjaaGreatDoor

/-
  BlocksPlay: its loop: definitions.
-/
set_option linter.unusedSimpArgs false
set_option linter.unusedVariables false
namespace Go.Proofs.YtlpcdjhojfopjaaGreatDoor
open Go.Ev


end Go.Proofs.YtlpcdjhojfopjaaGreatDoor
