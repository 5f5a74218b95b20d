/-
  slices.SortFunc at addresses: the library's contract laid at this program.
-/
import Derived.Shelf.SlSortCmp.WholeK
import Derived.Shelf.SlSortCmp.NoneTotal
import Derived.Shelf.SlGeneric
import Derived.Ground.SlsfProg
import Derived.Test.YtlpcdjhojfopjaaDoorProg
set_option linter.unusedSimpArgs false
set_option linter.unusedVariables false
namespace Go.Proofs.YtlpcdjhojfopjaaDoor
open Go Go.Proofs Go.Shelf
def srt_ren : Go.Shelf.Ren := ⟨fun | 6 => 149 | 15 => 156 | 14 => 155 | 28 => 167 | 29 => 168 | 20 => 159 | 21 => 160 | 22 => 161 | 23 => 162 | 24 => 163 | 25 => 164 | 26 => 165 | 27 => 166 | 46 => 169 | 47 => 170 | 48 => 171 | 49 => 172 | 50 => 173 | 57 => 174 | n => n, fun | 22 => 201 | 24 => 33 | 25 => 206 | 3 => 3 | 39 => 49 | 0 => 0 | 53 => 64 | 55 => 34 | 4 => 4 | 46 => 226 | 45 => 225 | 50 => 54 | 5 => 5 | 9 => 9 | 66 => 232 | 70 => 236 | 76 => 238 | 77 => 239 | n => n, fun | n => n⟩
theorem srt : Go.Proofs.SlLaysF0.n6 Tryd.prog srt_ren := {
  mixed := by kernel_rfl
  f6 := ⟨Tryd.f149.name, by decide, Tryd.func149.trans (congrArg some (by kernel_rfl))⟩
  f14 := ⟨Tryd.f155.name, by decide, Tryd.func155.trans (congrArg some (by kernel_rfl))⟩
  f15 := Tryd.func156.trans (congrArg some (by kernel_rfl))
  f20 := ⟨Tryd.f159.name, by decide, Tryd.func159.trans (congrArg some (by kernel_rfl))⟩
  f21 := ⟨Tryd.f160.name, by decide, Tryd.func160.trans (congrArg some (by kernel_rfl))⟩
  f22 := ⟨Tryd.f161.name, by decide, Tryd.func161.trans (congrArg some (by kernel_rfl))⟩
  f23 := ⟨Tryd.f162.name, by decide, Tryd.func162.trans (congrArg some (by kernel_rfl))⟩
  f24 := ⟨Tryd.f163.name, by decide, Tryd.func163.trans (congrArg some (by kernel_rfl))⟩
  f25 := ⟨Tryd.f164.name, by decide, Tryd.func164.trans (congrArg some (by kernel_rfl))⟩
  f26 := ⟨Tryd.f165.name, by decide, Tryd.func165.trans (congrArg some (by kernel_rfl))⟩
  f27 := ⟨Tryd.f166.name, by decide, Tryd.func166.trans (congrArg some (by kernel_rfl))⟩
  f28 := Tryd.func167.trans (congrArg some (by kernel_rfl))
  f29 := Tryd.func168.trans (congrArg some (by kernel_rfl))
  f46 := ⟨Tryd.f169.name, by decide, Tryd.func169.trans (congrArg some (by kernel_rfl))⟩
  f47 := Tryd.func170.trans (congrArg some (by kernel_rfl))
  f48 := Tryd.func171.trans (congrArg some (by kernel_rfl))
  f49 := ⟨Tryd.f172.name, by decide, Tryd.func172.trans (congrArg some (by kernel_rfl))⟩
  f50 := ⟨Tryd.f173.name, by decide, Tryd.func173.trans (congrArg some (by kernel_rfl))⟩
  f57 := ⟨Tryd.f174.name, by decide, Tryd.func174.trans (congrArg some (by kernel_rfl))⟩
  t0 := Tryd.underlying0
  a0 := Tryd.isAgg0
  z0 := Tryd.sizeOf0
  v0 := Tryd.zeroValue0
  t3 := Tryd.underlying3
  a3 := Tryd.isAgg3
  z3 := Tryd.sizeOf3
  v3 := Tryd.zeroValue3
  t4 := Tryd.underlying4
  a4 := Tryd.isAgg4
  z4 := Tryd.sizeOf4
  v4 := Tryd.zeroValue4
  t5 := Tryd.underlying5
  a5 := Tryd.isAgg5
  z5 := Tryd.sizeOf5
  v5 := Tryd.zeroValue5
  t9 := Tryd.underlying9
  a9 := Tryd.isAgg9
  z9 := Tryd.sizeOf9
  v9 := Tryd.zeroValue9
  t22 := Tryd.underlying201
  a22 := Tryd.isAgg201
  z22 := Tryd.sizeOf201
  v22 := Tryd.zeroValue201
  t25 := Tryd.underlying206
  a25 := Tryd.isAgg206
  z25 := Tryd.sizeOf206
  v25 := Tryd.zeroValue206
  t39 := Tryd.underlying49
  a39 := Tryd.isAgg49
  z39 := Tryd.sizeOf49
  v39 := Tryd.zeroValue49
  t45 := Tryd.underlying225
  a45 := Tryd.isAgg225
  z45 := Tryd.sizeOf225
  v45 := Tryd.zeroValue225
  t46 := Tryd.underlying226
  a46 := Tryd.isAgg226
  z46 := Tryd.sizeOf226
  v46 := Tryd.zeroValue226
  t50 := Tryd.underlying54
  a50 := Tryd.isAgg54
  z50 := Tryd.sizeOf54
  v50 := Tryd.zeroValue54
  t53 := Tryd.underlying64
  a53 := Tryd.isAgg64
  z53 := Tryd.sizeOf64
  v53 := Tryd.zeroValue64
  t55 := Tryd.underlying34
  a55 := Tryd.isAgg34
  z55 := Tryd.sizeOf34
  v55 := Tryd.zeroValue34
  t66 := Tryd.underlying232
  a66 := Tryd.isAgg232
  z66 := Tryd.sizeOf232
  v66 := Tryd.zeroValue232
  t70 := Tryd.underlying236
  a70 := Tryd.isAgg236
  z70 := Tryd.sizeOf236
  v70 := Tryd.zeroValue236
  t76 := Tryd.underlying238
  a76 := Tryd.isAgg238
  z76 := Tryd.sizeOf238
  v76 := Tryd.zeroValue238
  t77 := Tryd.underlying239
  a77 := Tryd.isAgg239
  z77 := Tryd.sizeOf239
  v77 := Tryd.zeroValue239 }
end Go.Proofs.YtlpcdjhojfopjaaDoor
