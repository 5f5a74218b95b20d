/-
  Hazards: the words of one thread: definitions.
-/
import Derived.Test.YtljeiencnpnbkaaDoorUHlLaw
import Derived.Test.YtljeiencnpnbkaaDoorEvFam
set_option linter.unusedSimpArgs false
set_option linter.unusedVariables false
namespace Go.Proofs.YtljeiencnpnbkaaDoor
open Go.Ev
section
variable (m : Nat) (f : Nat → Nat → AV) (ii : Nat) (M : List Int → Option Int)
noncomputable def hnS (k : Int) : St := ⟨[.top, .top, .top, .map 3, .top, .top, .top, .top, .top, .top, .top, .ss 10 1 0 m none, .sym .i64 (Int.ofNat m), .sym .i64 (Int.ofNat ii), .top, .top, .top, .top, .agg [.sym .u64 (avInt (f (0 + ii) 7)), .sym .u64 (avInt (f (0 + ii) 8)), .sym .u64 (avInt (f (0 + ii) 9))], .int .i64 k] ++ List.replicate 17 .top, ⟨[(4, .cells 10 [.sym .u64 (avInt (f (0 + ii) 0)), .sym .u64 (avInt (f (0 + ii) 1)), .sym .u64 (avInt (f (0 + ii) 2)), .sym .u64 (avInt (f (0 + ii) 3)), .sym .u64 (avInt (f (0 + ii) 4)), .sym .u64 (avInt (f (0 + ii) 5)), .sym .u64 (avInt (f (0 + ii) 6)), .sym .u64 (avInt (f (0 + ii) 7)), .sym .u64 (avInt (f (0 + ii) 8)), .sym .u64 (avInt (f (0 + ii) 9))]), (3, .map 102 M), (gnm 0, tabAO tab), (1, .arr 10 [.int .u64, .int .u64, .int .u64, .int .u64, .int .u64, .int .u64, .int .u64, .int .u64, .int .u64, .int .u64] true m f)], 5, gnm 0, [], [], [4, 3], false⟩⟩
noncomputable def hnA (k a g : Int) : St := ⟨[.top, .top, .top, .map 3, .top, .top, .top, .top, .ptr 5 0 0, .top, .top, .ss 10 1 0 m none, .sym .i64 (Int.ofNat m), .sym .i64 (Int.ofNat ii), .top, .top, .top, .top, .agg [.sym .u64 (avInt (f (0 + ii) 7)), .sym .u64 (avInt (f (0 + ii) 8)), .sym .u64 (avInt (f (0 + ii) 9))], .int .i64 k, .top, .top, .top, .top, .top, .top, .top, .bool true] ++ List.replicate 9 .top, ⟨[(5, .cells 3 [.sym .i64 a, .sym .u32 g, .symb false]), (4, .cells 10 [.sym .u64 (avInt (f (0 + ii) 0)), .sym .u64 (avInt (f (0 + ii) 1)), .sym .u64 (avInt (f (0 + ii) 2)), .sym .u64 (avInt (f (0 + ii) 3)), .sym .u64 (avInt (f (0 + ii) 4)), .sym .u64 (avInt (f (0 + ii) 5)), .sym .u64 (avInt (f (0 + ii) 6)), .sym .u64 (avInt (f (0 + ii) 7)), .sym .u64 (avInt (f (0 + ii) 8)), .sym .u64 (avInt (f (0 + ii) 9))]), (3, .map 102 M), (gnm 0, tabAO tab), (1, .arr 10 [.int .u64, .int .u64, .int .u64, .int .u64, .int .u64, .int .u64, .int .u64, .int .u64, .int .u64, .int .u64] true m f)], 6, gnm 0, [], [], [5, 4, 3], false⟩⟩
noncomputable def hnB (k a g V : Int) : St := ⟨[.top, .top, .top, .map 3, .top, .top, .top, .top, .ptr 5 0 0, .top, .top, .ss 10 1 0 m none, .sym .i64 (Int.ofNat m), .sym .i64 (Int.ofNat ii), .top, .top, .top, .top, .agg [.sym .u64 (avInt (f (0 + ii) 7)), .sym .u64 (avInt (f (0 + ii) 8)), .sym .u64 (avInt (f (0 + ii) 9))], .int .i64 k, .top, .top, .top, .top, .top, .top, .top, .bool true, .map 3, .agg [.sym .i64 a, .sym .u32 g, .symb false], .sym .i64 V, .sym .i64 (IntKind.i64.wrap (V + 1)), .tup [.sym .i64 (mval M [a, g, 0]), .stamp 6], .stamp 6] ++ List.replicate 3 .top, ⟨[(5, .cells 3 [.sym .i64 a, .sym .u32 g, .symb false]), (4, .cells 10 [.sym .u64 (avInt (f (0 + ii) 0)), .sym .u64 (avInt (f (0 + ii) 1)), .sym .u64 (avInt (f (0 + ii) 2)), .sym .u64 (avInt (f (0 + ii) 3)), .sym .u64 (avInt (f (0 + ii) 4)), .sym .u64 (avInt (f (0 + ii) 5)), .sym .u64 (avInt (f (0 + ii) 6)), .sym .u64 (avInt (f (0 + ii) 7)), .sym .u64 (avInt (f (0 + ii) 8)), .sym .u64 (avInt (f (0 + ii) 9))]), (3, .map 102 (setKey (setKey M [a, g, 0] (some (mval M [a, g, 0]))) [a, g, 0] (some (IntKind.i64.wrap (V + 1))))), (gnm 0, tabAO tab), (1, .arr 10 [.int .u64, .int .u64, .int .u64, .int .u64, .int .u64, .int .u64, .int .u64, .int .u64, .int .u64, .int .u64] true m f)], 7, gnm 0, [], [], [5, 4, 3], false⟩⟩
noncomputable def hnC (k a g V : Int) : St := ⟨[.top, .top, .top, .map 3, .top, .top, .top, .top, .top, .top, .top, .ss 10 1 0 m none, .sym .i64 (Int.ofNat m), .sym .i64 (Int.ofNat ii), .top, .top, .top, .top, .agg [.sym .u64 (avInt (f (0 + ii) 7)), .sym .u64 (avInt (f (0 + ii) 8)), .sym .u64 (avInt (f (0 + ii) 9))], .int .i64 k] ++ List.replicate 17 .top, ⟨[(5, .cells 3 [.sym .i64 a, .sym .u32 g, .symb false]), (4, .cells 10 [.sym .u64 (avInt (f (0 + ii) 0)), .sym .u64 (avInt (f (0 + ii) 1)), .sym .u64 (avInt (f (0 + ii) 2)), .sym .u64 (avInt (f (0 + ii) 3)), .sym .u64 (avInt (f (0 + ii) 4)), .sym .u64 (avInt (f (0 + ii) 5)), .sym .u64 (avInt (f (0 + ii) 6)), .sym .u64 (avInt (f (0 + ii) 7)), .sym .u64 (avInt (f (0 + ii) 8)), .sym .u64 (avInt (f (0 + ii) 9))]), (3, .map 102 (setKey (setKey M [a, g, 0] (some (mval M [a, g, 0]))) [a, g, 0] (some (IntKind.i64.wrap (V + 1))))), (gnm 0, tabAO tab), (1, .arr 10 [.int .u64, .int .u64, .int .u64, .int .u64, .int .u64, .int .u64, .int .u64, .int .u64, .int .u64, .int .u64] true m f)], 7, gnm 0, [], [], [5, 4, 3], false⟩⟩
noncomputable def hnX : St := ⟨[.top, .top, .top, .map 3, .top, .top, .top, .top, .top, .top, .top, .ss 10 1 0 m none, .sym .i64 (Int.ofNat m), .sym .i64 (Int.ofNat ii)] ++ List.replicate 23 .top, ⟨[(3, .map 102 M), (gnm 0, tabAO tab), (1, .arr 10 [.int .u64, .int .u64, .int .u64, .int .u64, .int .u64, .int .u64, .int .u64, .int .u64, .int .u64, .int .u64] true m f)], 5, gnm 0, [], [], [4, 3], false⟩⟩
end
noncomputable abbrev hnL : Code := loopAt Tryd.prog 49 1
noncomputable def hnR6 : Code := fstC hnL
noncomputable def hnIf : Code := fstC (sndC hnL)
noncomputable def hnB3 : Code := inBlock (fstC (sndC (sndC hnL)))
noncomputable def hnR11 : Code := sndC (sndC (sndC hnL))
noncomputable def hnR7 : Code := fstC hnB3
noncomputable def hnR8 : Code := fstC (sndC hnB3)
noncomputable def hnR9 : Code := fstC (sndC (sndC hnB3))
noncomputable def hnOps : Array Oper := match sndC (sndC (sndC hnB3)) with
  | .cond _ (.region _ o _) _ => o
  | _ => #[]
theorem hnL_eq : hnL = seqs [hnR6, hnIf] (.seq (.block 3 (seqs [hnR7, hnR8, hnR9] (.cond (.tmp 27) (.region 10 hnOps true) .skip))) hnR11) := by kernel_rfl
end Go.Proofs.YtljeiencnpnbkaaDoor
