/-
  BarriersSeen: a part of its runs.
-/
import Derived.Test.YtmhjecenmgbpeaaDoorDBsDef
set_option linter.unusedSimpArgs false
set_option linter.unusedVariables false
namespace Go.Proofs.YtmhjecenmgbpeaaDoor
open Go.Ev
theorem bs0t (number field w : Int) : (callF EBS 5000 3 [.sym .u64 number, .sym .u8 field, .sym .u64 w] ⟨tabsH [(0, btab)], 1, gnm 0, [.k 9, .b false, .k 3, .l 0, .b true, .k 3, .b true], [], [], true⟩).map (fun x => (x.1, x.2.ob, noneIn (tabsH [(0, btab)]) x.2.wr)) = some (.bool true, [TabIs btab (tabF btab),
 (w == 0) = true,
 (w == 0) = true,
 (IntKind.i64.wrap field).tmod 10 = 0,
 decide ((IntKind.u64.wrap ((IntKind.u64.wrap (IntKind.u64.wrap ((number.tmod 281474976710656) + 281474976710656) - 1)) - (number.tmod 281474976710656))).tmod 281474976710656 < 140737488355328) = false], true) := by kernel_rfl
theorem bs0f (number field w : Int) : (callF EBS 5000 3 [.sym .u64 number, .sym .u8 field, .sym .u64 w] ⟨tabsH [(0, btab)], 1, gnm 0, [.k 9, .b false, .k 3, .l 0, .b false, .k 3, .b false, .k 3, .b false, .k 3, .b false, .k 2, .b false], [], [], true⟩).map (fun x => (x.1, x.2.ob, noneIn (tabsH [(0, btab)]) x.2.wr)) = some (.bool true, [TabIs btab (tabF btab),
 (w == 0) = false,
 decide ((IntKind.u64.wrap ((IntKind.u64.wrap (IntKind.u64.wrap ((number.tmod 281474976710656) + 281474976710656) - 1)) - (number.tmod 281474976710656))).tmod 281474976710656 < 140737488355328) = false,
 (w == 0) = false,
 decide ((IntKind.u64.wrap ((IntKind.u64.wrap (IntKind.u64.wrap ((number.tmod 281474976710656) + 281474976710656) - 1)) - (number.tmod 281474976710656))).tmod 281474976710656 < 140737488355328) = false,
 (w == 0) = false,
 (IntKind.i64.wrap field).tmod 10 = 0,
 decide ((IntKind.u64.wrap ((IntKind.u64.wrap (IntKind.u64.wrap ((number.tmod 281474976710656) + 281474976710656) - 1)) - (number.tmod 281474976710656))).tmod 281474976710656 < 140737488355328) = false], true) := by kernel_rfl
theorem bs1t (number field w : Int) : (callF EBS 5000 3 [.sym .u64 number, .sym .u8 field, .sym .u64 w] ⟨tabsH [(0, btab)], 1, gnm 0, [.k 9, .b false, .k 5, .l 1, .b true, .k 3, .b true], [], [], true⟩).map (fun x => (x.1, x.2.ob, noneIn (tabsH [(0, btab)]) x.2.wr)) = some (.bool true, [TabIs btab (tabF btab),
 (w == 0) = true,
 (w == 0) = true,
 (IntKind.i64.wrap field).tmod 10 = 1,
 decide ((IntKind.u64.wrap ((IntKind.u64.wrap (IntKind.u64.wrap ((number.tmod 281474976710656) + 281474976710656) - 1)) - (number.tmod 281474976710656))).tmod 281474976710656 < 140737488355328) = false], true) := by kernel_rfl
theorem bs1f (number field w : Int) : (callF EBS 5000 3 [.sym .u64 number, .sym .u8 field, .sym .u64 w] ⟨tabsH [(0, btab)], 1, gnm 0, [.k 9, .b false, .k 5, .l 1, .b false, .k 1, .b false, .k 5, .b false, .k 1, .b false, .k 2, .b false], [], [], true⟩).map (fun x => (x.1, x.2.ob, noneIn (tabsH [(0, btab)]) x.2.wr)) = some (.bool true, [TabIs btab (tabF btab),
 (w == 0) = false,
 decide ((IntKind.u64.wrap ((IntKind.u64.wrap (IntKind.u64.wrap ((number.tmod 281474976710656) + 281474976710656) - 1)) - (number.tmod 281474976710656))).tmod 281474976710656 < 140737488355328) = false,
 (w == 0) = false,
 decide ((IntKind.u64.wrap ((IntKind.u64.wrap (IntKind.u64.wrap ((number.tmod 281474976710656) + 281474976710656) - 1)) - (number.tmod 281474976710656))).tmod 281474976710656 < 140737488355328) = false,
 (w == 0) = false,
 (IntKind.i64.wrap field).tmod 10 = 1,
 decide ((IntKind.u64.wrap ((IntKind.u64.wrap (IntKind.u64.wrap ((number.tmod 281474976710656) + 281474976710656) - 1)) - (number.tmod 281474976710656))).tmod 281474976710656 < 140737488355328) = false], true) := by kernel_rfl
end Go.Proofs.YtmhjecenmgbpeaaDoor
