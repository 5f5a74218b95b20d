/-
  slices.SortFunc at addresses: the library's contract laid at this program.
-/
import Derived.Shelf.SlSortCmp.WholeK
import Derived.Shelf.SlSortCmp.NoneTotal
import Derived.Shelf.SlGeneric
import Derived.Ground.SlsfProg
import Derived.Test.YtlpcdjhojfopjaaGreatDoorProg
set_option linter.unusedSimpArgs false
set_option linter.unusedVariables false
namespace Go.Proofs.YtlpcdjhojfopjaaGreatDoor
open Go Go.Proofs Go.Shelf
def srt_ren : Go.Shelf.Ren := ⟨fun | 6 => 306 | 15 => 302 | 14 => 330 | 28 => 327 | 29 => 328 | 20 => 338 | 21 => 339 | 22 => 340 | 23 => 341 | 24 => 342 | 25 => 343 | 26 => 344 | 27 => 345 | 46 => 347 | 47 => 334 | 48 => 335 | 49 => 348 | 50 => 349 | 57 => 350 | n => n, fun | 22 => 343 | 24 => 33 | 25 => 348 | 3 => 3 | 39 => 48 | 0 => 0 | 53 => 86 | 55 => 30 | 4 => 4 | 46 => 389 | 45 => 388 | 50 => 359 | 5 => 5 | 9 => 9 | 66 => 399 | 70 => 402 | 76 => 409 | 77 => 319 | n => n, fun | n => n⟩
theorem srt : Go.Proofs.SlLaysF0.n6 Tryz.prog srt_ren := {
  mixed := by kernel_rfl
  f6 := ⟨Tryz.f306.name, by decide, Tryz.func306.trans (congrArg some (by kernel_rfl))⟩
  f14 := ⟨Tryz.f330.name, by decide, Tryz.func330.trans (congrArg some (by kernel_rfl))⟩
  f15 := Tryz.func302.trans (congrArg some (by kernel_rfl))
  f20 := ⟨Tryz.f338.name, by decide, Tryz.func338.trans (congrArg some (by kernel_rfl))⟩
  f21 := ⟨Tryz.f339.name, by decide, Tryz.func339.trans (congrArg some (by kernel_rfl))⟩
  f22 := ⟨Tryz.f340.name, by decide, Tryz.func340.trans (congrArg some (by kernel_rfl))⟩
  f23 := ⟨Tryz.f341.name, by decide, Tryz.func341.trans (congrArg some (by kernel_rfl))⟩
  f24 := ⟨Tryz.f342.name, by decide, Tryz.func342.trans (congrArg some (by kernel_rfl))⟩
  f25 := ⟨Tryz.f343.name, by decide, Tryz.func343.trans (congrArg some (by kernel_rfl))⟩
  f26 := ⟨Tryz.f344.name, by decide, Tryz.func344.trans (congrArg some (by kernel_rfl))⟩
  f27 := ⟨Tryz.f345.name, by decide, Tryz.func345.trans (congrArg some (by kernel_rfl))⟩
  f28 := Tryz.func327.trans (congrArg some (by kernel_rfl))
  f29 := Tryz.func328.trans (congrArg some (by kernel_rfl))
  f46 := ⟨Tryz.f347.name, by decide, Tryz.func347.trans (congrArg some (by kernel_rfl))⟩
  f47 := Tryz.func334.trans (congrArg some (by kernel_rfl))
  f48 := Tryz.func335.trans (congrArg some (by kernel_rfl))
  f49 := ⟨Tryz.f348.name, by decide, Tryz.func348.trans (congrArg some (by kernel_rfl))⟩
  f50 := ⟨Tryz.f349.name, by decide, Tryz.func349.trans (congrArg some (by kernel_rfl))⟩
  f57 := ⟨Tryz.f350.name, by decide, Tryz.func350.trans (congrArg some (by kernel_rfl))⟩
  t0 := Tryz.underlying0
  a0 := Tryz.isAgg0
  z0 := Tryz.sizeOf0
  v0 := Tryz.zeroValue0
  t3 := Tryz.underlying3
  a3 := Tryz.isAgg3
  z3 := Tryz.sizeOf3
  v3 := Tryz.zeroValue3
  t4 := Tryz.underlying4
  a4 := Tryz.isAgg4
  z4 := Tryz.sizeOf4
  v4 := Tryz.zeroValue4
  t5 := Tryz.underlying5
  a5 := Tryz.isAgg5
  z5 := Tryz.sizeOf5
  v5 := Tryz.zeroValue5
  t9 := Tryz.underlying9
  a9 := Tryz.isAgg9
  z9 := Tryz.sizeOf9
  v9 := Tryz.zeroValue9
  t22 := Tryz.underlying343
  a22 := Tryz.isAgg343
  z22 := Tryz.sizeOf343
  v22 := Tryz.zeroValue343
  t25 := Tryz.underlying348
  a25 := Tryz.isAgg348
  z25 := Tryz.sizeOf348
  v25 := Tryz.zeroValue348
  t39 := Tryz.underlying48
  a39 := Tryz.isAgg48
  z39 := Tryz.sizeOf48
  v39 := Tryz.zeroValue48
  t45 := Tryz.underlying388
  a45 := Tryz.isAgg388
  z45 := Tryz.sizeOf388
  v45 := Tryz.zeroValue388
  t46 := Tryz.underlying389
  a46 := Tryz.isAgg389
  z46 := Tryz.sizeOf389
  v46 := Tryz.zeroValue389
  t50 := Tryz.underlying359
  a50 := Tryz.isAgg359
  z50 := Tryz.sizeOf359
  v50 := Tryz.zeroValue359
  t53 := Tryz.underlying86
  a53 := Tryz.isAgg86
  z53 := Tryz.sizeOf86
  v53 := Tryz.zeroValue86
  t55 := Tryz.underlying30
  a55 := Tryz.isAgg30
  z55 := Tryz.sizeOf30
  v55 := Tryz.zeroValue30
  t66 := Tryz.underlying399
  a66 := Tryz.isAgg399
  z66 := Tryz.sizeOf399
  v66 := Tryz.zeroValue399
  t70 := Tryz.underlying402
  a70 := Tryz.isAgg402
  z70 := Tryz.sizeOf402
  v70 := Tryz.zeroValue402
  t76 := Tryz.underlying409
  a76 := Tryz.isAgg409
  z76 := Tryz.sizeOf409
  v76 := Tryz.zeroValue409
  t77 := Tryz.underlying319
  a77 := Tryz.isAgg319
  z77 := Tryz.sizeOf319
  v77 := Tryz.zeroValue319 }
end Go.Proofs.YtlpcdjhojfopjaaGreatDoor
