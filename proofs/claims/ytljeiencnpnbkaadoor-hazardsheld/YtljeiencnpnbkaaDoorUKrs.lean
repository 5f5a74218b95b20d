/-
  slices.SortFunc at addresses: the library's contract laid at this program.
-/
import Derived.Shelf.SlSortCmp.WholeK
import Derived.Shelf.SlSortCmp.NoneTotal
import Derived.Shelf.SlGeneric
import Derived.Ground.SlsfProg
import Derived.Test.YtljeiencnpnbkaaDoorProg
set_option linter.unusedSimpArgs false
set_option linter.unusedVariables false
namespace Go.Proofs.YtljeiencnpnbkaaDoor
open Go Go.Proofs Go.Shelf
def srt_ren : Go.Shelf.Ren := ⟨fun | 6 => 109 | 15 => 172 | 14 => 171 | 28 => 205 | 29 => 206 | 20 => 197 | 21 => 198 | 22 => 199 | 23 => 200 | 24 => 201 | 25 => 202 | 26 => 203 | 27 => 204 | 46 => 212 | 47 => 213 | 48 => 214 | 49 => 215 | 50 => 216 | 57 => 217 | n => n, fun | 22 => 32 | 24 => 25 | 25 => 107 | 3 => 3 | 39 => 179 | 0 => 0 | 53 => 23 | 55 => 26 | 4 => 4 | 46 => 246 | 45 => 245 | 50 => 163 | 5 => 5 | 9 => 9 | 66 => 257 | 70 => 261 | 76 => 263 | 77 => 264 | n => n, fun | n => n⟩
theorem srt : Go.Proofs.SlLaysF0.n6 Tryd.prog srt_ren := {
  mixed := by kernel_rfl
  f6 := ⟨Tryd.f109.name, by decide, Tryd.func109.trans (congrArg some (by kernel_rfl))⟩
  f14 := ⟨Tryd.f171.name, by decide, Tryd.func171.trans (congrArg some (by kernel_rfl))⟩
  f15 := Tryd.func172.trans (congrArg some (by kernel_rfl))
  f20 := ⟨Tryd.f197.name, by decide, Tryd.func197.trans (congrArg some (by kernel_rfl))⟩
  f21 := ⟨Tryd.f198.name, by decide, Tryd.func198.trans (congrArg some (by kernel_rfl))⟩
  f22 := ⟨Tryd.f199.name, by decide, Tryd.func199.trans (congrArg some (by kernel_rfl))⟩
  f23 := ⟨Tryd.f200.name, by decide, Tryd.func200.trans (congrArg some (by kernel_rfl))⟩
  f24 := ⟨Tryd.f201.name, by decide, Tryd.func201.trans (congrArg some (by kernel_rfl))⟩
  f25 := ⟨Tryd.f202.name, by decide, Tryd.func202.trans (congrArg some (by kernel_rfl))⟩
  f26 := ⟨Tryd.f203.name, by decide, Tryd.func203.trans (congrArg some (by kernel_rfl))⟩
  f27 := ⟨Tryd.f204.name, by decide, Tryd.func204.trans (congrArg some (by kernel_rfl))⟩
  f28 := Tryd.func205.trans (congrArg some (by kernel_rfl))
  f29 := Tryd.func206.trans (congrArg some (by kernel_rfl))
  f46 := ⟨Tryd.f212.name, by decide, Tryd.func212.trans (congrArg some (by kernel_rfl))⟩
  f47 := Tryd.func213.trans (congrArg some (by kernel_rfl))
  f48 := Tryd.func214.trans (congrArg some (by kernel_rfl))
  f49 := ⟨Tryd.f215.name, by decide, Tryd.func215.trans (congrArg some (by kernel_rfl))⟩
  f50 := ⟨Tryd.f216.name, by decide, Tryd.func216.trans (congrArg some (by kernel_rfl))⟩
  f57 := ⟨Tryd.f217.name, by decide, Tryd.func217.trans (congrArg some (by kernel_rfl))⟩
  t0 := Tryd.underlying0
  a0 := Tryd.isAgg0
  z0 := Tryd.sizeOf0
  v0 := Tryd.zeroValue0
  t3 := Tryd.underlying3
  a3 := Tryd.isAgg3
  z3 := Tryd.sizeOf3
  v3 := Tryd.zeroValue3
  t4 := Tryd.underlying4
  a4 := Tryd.isAgg4
  z4 := Tryd.sizeOf4
  v4 := Tryd.zeroValue4
  t5 := Tryd.underlying5
  a5 := Tryd.isAgg5
  z5 := Tryd.sizeOf5
  v5 := Tryd.zeroValue5
  t9 := Tryd.underlying9
  a9 := Tryd.isAgg9
  z9 := Tryd.sizeOf9
  v9 := Tryd.zeroValue9
  t22 := Tryd.underlying32
  a22 := Tryd.isAgg32
  z22 := Tryd.sizeOf32
  v22 := Tryd.zeroValue32
  t25 := Tryd.underlying107
  a25 := Tryd.isAgg107
  z25 := Tryd.sizeOf107
  v25 := Tryd.zeroValue107
  t39 := Tryd.underlying179
  a39 := Tryd.isAgg179
  z39 := Tryd.sizeOf179
  v39 := Tryd.zeroValue179
  t45 := Tryd.underlying245
  a45 := Tryd.isAgg245
  z45 := Tryd.sizeOf245
  v45 := Tryd.zeroValue245
  t46 := Tryd.underlying246
  a46 := Tryd.isAgg246
  z46 := Tryd.sizeOf246
  v46 := Tryd.zeroValue246
  t50 := Tryd.underlying163
  a50 := Tryd.isAgg163
  z50 := Tryd.sizeOf163
  v50 := Tryd.zeroValue163
  t53 := Tryd.underlying23
  a53 := Tryd.isAgg23
  z53 := Tryd.sizeOf23
  v53 := Tryd.zeroValue23
  t55 := Tryd.underlying26
  a55 := Tryd.isAgg26
  z55 := Tryd.sizeOf26
  v55 := Tryd.zeroValue26
  t66 := Tryd.underlying257
  a66 := Tryd.isAgg257
  z66 := Tryd.sizeOf257
  v66 := Tryd.zeroValue257
  t70 := Tryd.underlying261
  a70 := Tryd.isAgg261
  z70 := Tryd.sizeOf261
  v70 := Tryd.zeroValue261
  t76 := Tryd.underlying263
  a76 := Tryd.isAgg263
  z76 := Tryd.sizeOf263
  v76 := Tryd.zeroValue263
  t77 := Tryd.underlying264
  a77 := Tryd.isAgg264
  z77 := Tryd.sizeOf264
  v77 := Tryd.zeroValue264 }
end Go.Proofs.YtljeiencnpnbkaaDoor
