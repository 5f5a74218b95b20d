/-
  law10.TablesPlay: the states of its loop.
-/
import Derived.Test.YtlpcdjhojfopjaaGreatDoorZTpDef
import Derived.Test.YtlpcdjhojfopjaaGreatDoorZWd
import Derived.Test.YtlpcdjhojfopjaaGreatDoorZR4
import Derived.Test.YtlpcdjhojfopjaaGreatDoorZSww
import Derived.Test.YtlpcdjhojfopjaaGreatDoorZBeg
set_option linter.unusedSimpArgs false
set_option linter.unusedVariables false
namespace Go.Proofs.YtlpcdjhojfopjaaGreatDoor
open Go.Ev
noncomputable def Etp : Env := envG Tryz.prog ([(16, locSP pstSpec), (23, locSP smeSpec), (275, tabSP 0 tab blkS), (163, locSP rbkSpec), (76, tabSP 0 tab asbS), (177, locSP rabSpec)] ++ memSP)
theorem Etp_ok : EnvOk Etp := envG_ok mgood ⟨locSP_ok pstSpec_ok, locSP_ok smeSpec_ok, tabSP_ok rfl blkS_ok, locSP_ok rbkSpec_ok, tabSP_ok rfl asbS_ok, locSP_ok rabSpec_ok, memSP_ok⟩
def asSh : List CK := [.int .u8, .int .i64, .int .u8, .int .i64, .int .i64, .int .u64]
noncomputable def tpF : Fam := ⟨fam0, 2, 3, [.val, .val, .val], 8⟩
section
variable (m : Nat) (f : Nat → Nat → AV) (q : Nat) (h : Nat → Nat → AV)
noncomputable def tpU : St := ⟨[.ss 6 1 0 m none, .top, .top, .top, .top, .ptr 7 0 0, .nils, .int .i64 0] ++ List.replicate 91 .top, ⟨[(7, .cells 2 [.ptr 3 0 0, .ptr 5 0 0]), (gnm 0, tabAO tab), (1, .arr 6 asSh true m f), (2, .arr 4 wSh true q (wdF (bgW h))), (3, .cells 9 (.map 4 :: lsL (msN (bgW h) q).st (msN (bgW h) q).L)), (4, .map 250 (msN (bgW h) q).M), (5, .cells 9 (.ss 4 6 0 (rsN (bgW h) q).D.n none :: lsL (rsN (bgW h) q).st (rsN (bgW h) q).L)), (6, .arr 4 wSh false (rsN (bgW h) q).D.n (wdF (rsN (bgW h) q).D.W))], 8, gnm 0, [], [], [7], false⟩⟩
noncomputable def tpT (i : Nat) (x : GX TO) : FSt := ⟨[.ss 6 1 0 m none, .top, .top, .top, .top, .ptr 7 0 0, .ss 3 8 0 x.n none, .sym .i64 (Int.ofNat i)] ++ List.replicate 91 .top, [(7, .cells 2 [.ptr 3 0 0, .ptr 5 0 0]), (gnm 0, tabAO tab), (1, .arr 6 asSh true m f), (3, .cells 9 (.map 4 :: lsL x.S.st x.S.L)), (4, .map 250 x.S.M), (5, .cells 9 (.ss 4 9 0 x.R.D.n none :: lsL x.R.st x.R.L)), (9, .arr 4 wSh false x.R.D.n (wdF x.R.D.W))], x.n, fun i => tpMb (x.O i), [3, 4, 5, 6, 7]⟩
noncomputable def tpX (S : MS) (R : RS) : St := ⟨[.ss 6 1 0 m none, .top, .top, .top, .top, .ptr 7 0 0] ++ List.replicate 93 .top, ⟨[(7, .cells 2 [.ptr 3 0 0, .ptr 5 0 0]), (gnm 0, tabAO tab), (1, .arr 6 asSh true m f), (3, .cells 9 (.map 4 :: lsL S.st S.L)), (4, .map 250 S.M), (5, .cells 9 (.ss 4 9 0 R.D.n none :: lsL R.st R.L)), (9, .arr 4 wSh false R.D.n (wdF R.D.W))], 10, gnm 0, [], [], [3, 4, 5, 6, 7], false⟩⟩
noncomputable abbrev tpL : Code := loopAt Tryz.prog 5 0
noncomputable def tpLP : Prop := LoopHolds Tryz.prog tpL (tpU m f q h) (.exit 0) (tpX m f (tpN f h q m).S (tpN f h q m).R)
end
theorem tpMb_f (o : TO) : MbF tpF (tpMb o) := by
  obtain ⟨t, bl, w, e, ow, ow2, bs, k, th, th2⟩ := o
  match t with
  | 0 => exact ⟨rfl, rfl, obj2 (by decide) (fun b => ⟨_, rfl⟩) (fun b => ⟨_, rfl⟩)⟩
  | 1 => exact ⟨rfl, rfl, obj2 (by decide) (fun b => ⟨_, rfl⟩) (fun b => ⟨_, rfl⟩)⟩
  | 2 => exact ⟨rfl, rfl, obj2 (by decide) (fun b => ⟨_, rfl⟩) (fun b => ⟨_, rfl⟩)⟩
  | 3 => exact ⟨rfl, rfl, obj2 (by decide) (fun b => ⟨_, rfl⟩) (fun b => ⟨_, rfl⟩)⟩
  | 4 => exact ⟨rfl, rfl, obj2 (by decide) (fun b => ⟨_, rfl⟩) (fun b => ⟨_, rfl⟩)⟩
  | 5 => exact ⟨rfl, rfl, obj2 (by decide) (fun b => ⟨_, rfl⟩) (fun b => ⟨_, rfl⟩)⟩
  | 6 => exact ⟨rfl, rfl, obj2 (by decide) (fun b => ⟨_, rfl⟩) (fun b => ⟨_, rfl⟩)⟩
  | 7 => exact ⟨rfl, rfl, obj2 (by decide) (fun b => ⟨_, rfl⟩) (fun b => ⟨_, rfl⟩)⟩
  | 8 => exact ⟨rfl, rfl, obj2 (by decide) (fun b => ⟨_, rfl⟩) (fun b => ⟨_, rfl⟩)⟩
  | 9 => exact ⟨rfl, rfl, obj2 (by decide) (fun b => ⟨_, rfl⟩) (fun b => ⟨_, rfl⟩)⟩
  | 10 => exact ⟨rfl, rfl, obj2 (by decide) (fun b => ⟨_, rfl⟩) (fun b => ⟨_, rfl⟩)⟩
  | 11 => exact ⟨rfl, rfl, obj2 (by decide) (fun b => ⟨_, rfl⟩) (fun b => ⟨_, rfl⟩)⟩
  | 12 => exact ⟨rfl, rfl, obj2 (by decide) (fun b => ⟨_, rfl⟩) (fun b => ⟨_, rfl⟩)⟩
  | 13 => exact ⟨rfl, rfl, obj2 (by decide) (fun b => ⟨_, rfl⟩) (fun b => ⟨_, rfl⟩)⟩
  | 14 => exact ⟨rfl, rfl, obj2 (by decide) (fun b => ⟨_, rfl⟩) (fun b => ⟨_, rfl⟩)⟩
  | k + 15 => exact ⟨rfl, rfl, obj2 (by decide) (fun b => ⟨_, rfl⟩) (fun b => ⟨_, rfl⟩)⟩
section
variable {m : Nat} {f : Nat → Nat → AV} {ii : Nat} {x : GX TO}
theorem tpOk (hn : x.n ≤ 1000) : FOk tpF (tpT m f ii x) ∧ (tpT m f ii x).n ≤ 1000000 := ⟨⟨by kernel_rfl, by kernel_rfl, fun i _ => mbOk_of rfl rfl (tpMb_f _)⟩, by show x.n ≤ 1000000; omega⟩
end
theorem tpFam : FamOk tpF := ⟨by show 1000 ≤ fam0; unfold fam0; omega, by show fam0 + 100000200 < gnm 0; unfold fam0 gnm; omega, by show 2 ≤ 100; omega, by show 8 < 900; omega, rfl⟩
end Go.Proofs.YtlpcdjhojfopjaaGreatDoor
