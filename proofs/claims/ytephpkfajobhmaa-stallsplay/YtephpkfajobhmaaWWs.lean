/-
  slices.SortFunc at addresses: the library's contract laid at this program.
-/
import Derived.Shelf.SlSortCmp.WholeK
import Derived.Shelf.SlSortCmp.NoneTotal
import Derived.Shelf.SlGeneric
import Derived.Ground.SlsfProg
import Derived.Test.YtephpkfajobhmaaProg
set_option linter.unusedSimpArgs false
set_option linter.unusedVariables false
namespace Go.Proofs.Ytephpkfajobhmaa
open Go Go.Proofs Go.Shelf
def srt_ren : Go.Shelf.Ren := ⟨fun | 6 => 137 | 15 => 145 | 14 => 144 | 28 => 156 | 29 => 157 | 20 => 148 | 21 => 149 | 22 => 150 | 23 => 151 | 24 => 152 | 25 => 153 | 26 => 154 | 27 => 155 | 46 => 158 | 47 => 159 | 48 => 160 | 49 => 161 | 50 => 162 | 57 => 163 | n => n, fun | 22 => 214 | 24 => 24 | 25 => 219 | 3 => 3 | 39 => 92 | 0 => 0 | 53 => 64 | 55 => 25 | 4 => 4 | 46 => 239 | 45 => 238 | 50 => 243 | 5 => 5 | 9 => 9 | 66 => 247 | 70 => 250 | 76 => 252 | 77 => 253 | n => n, fun | n => n⟩
theorem srt : Go.Proofs.SlLaysF0.n6 Try.prog srt_ren := {
  mixed := by kernel_rfl
  f6 := ⟨Try.f137.name, by decide, Try.func137.trans (congrArg some (by kernel_rfl))⟩
  f14 := ⟨Try.f144.name, by decide, Try.func144.trans (congrArg some (by kernel_rfl))⟩
  f15 := Try.func145.trans (congrArg some (by kernel_rfl))
  f20 := ⟨Try.f148.name, by decide, Try.func148.trans (congrArg some (by kernel_rfl))⟩
  f21 := ⟨Try.f149.name, by decide, Try.func149.trans (congrArg some (by kernel_rfl))⟩
  f22 := ⟨Try.f150.name, by decide, Try.func150.trans (congrArg some (by kernel_rfl))⟩
  f23 := ⟨Try.f151.name, by decide, Try.func151.trans (congrArg some (by kernel_rfl))⟩
  f24 := ⟨Try.f152.name, by decide, Try.func152.trans (congrArg some (by kernel_rfl))⟩
  f25 := ⟨Try.f153.name, by decide, Try.func153.trans (congrArg some (by kernel_rfl))⟩
  f26 := ⟨Try.f154.name, by decide, Try.func154.trans (congrArg some (by kernel_rfl))⟩
  f27 := ⟨Try.f155.name, by decide, Try.func155.trans (congrArg some (by kernel_rfl))⟩
  f28 := Try.func156.trans (congrArg some (by kernel_rfl))
  f29 := Try.func157.trans (congrArg some (by kernel_rfl))
  f46 := ⟨Try.f158.name, by decide, Try.func158.trans (congrArg some (by kernel_rfl))⟩
  f47 := Try.func159.trans (congrArg some (by kernel_rfl))
  f48 := Try.func160.trans (congrArg some (by kernel_rfl))
  f49 := ⟨Try.f161.name, by decide, Try.func161.trans (congrArg some (by kernel_rfl))⟩
  f50 := ⟨Try.f162.name, by decide, Try.func162.trans (congrArg some (by kernel_rfl))⟩
  f57 := ⟨Try.f163.name, by decide, Try.func163.trans (congrArg some (by kernel_rfl))⟩
  t0 := Try.underlying0
  a0 := Try.isAgg0
  z0 := Try.sizeOf0
  v0 := Try.zeroValue0
  t3 := Try.underlying3
  a3 := Try.isAgg3
  z3 := Try.sizeOf3
  v3 := Try.zeroValue3
  t4 := Try.underlying4
  a4 := Try.isAgg4
  z4 := Try.sizeOf4
  v4 := Try.zeroValue4
  t5 := Try.underlying5
  a5 := Try.isAgg5
  z5 := Try.sizeOf5
  v5 := Try.zeroValue5
  t9 := Try.underlying9
  a9 := Try.isAgg9
  z9 := Try.sizeOf9
  v9 := Try.zeroValue9
  t22 := Try.underlying214
  a22 := Try.isAgg214
  z22 := Try.sizeOf214
  v22 := Try.zeroValue214
  t25 := Try.underlying219
  a25 := Try.isAgg219
  z25 := Try.sizeOf219
  v25 := Try.zeroValue219
  t39 := Try.underlying92
  a39 := Try.isAgg92
  z39 := Try.sizeOf92
  v39 := Try.zeroValue92
  t45 := Try.underlying238
  a45 := Try.isAgg238
  z45 := Try.sizeOf238
  v45 := Try.zeroValue238
  t46 := Try.underlying239
  a46 := Try.isAgg239
  z46 := Try.sizeOf239
  v46 := Try.zeroValue239
  t50 := Try.underlying243
  a50 := Try.isAgg243
  z50 := Try.sizeOf243
  v50 := Try.zeroValue243
  t53 := Try.underlying64
  a53 := Try.isAgg64
  z53 := Try.sizeOf64
  v53 := Try.zeroValue64
  t55 := Try.underlying25
  a55 := Try.isAgg25
  z55 := Try.sizeOf25
  v55 := Try.zeroValue25
  t66 := Try.underlying247
  a66 := Try.isAgg247
  z66 := Try.sizeOf247
  v66 := Try.zeroValue247
  t70 := Try.underlying250
  a70 := Try.isAgg250
  z70 := Try.sizeOf250
  v70 := Try.zeroValue250
  t76 := Try.underlying252
  a76 := Try.isAgg252
  z76 := Try.sizeOf252
  v76 := Try.zeroValue252
  t77 := Try.underlying253
  a77 := Try.isAgg253
  z77 := Try.sizeOf253
  v77 := Try.zeroValue253 }
end Go.Proofs.Ytephpkfajobhmaa
