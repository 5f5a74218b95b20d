/-
  BarriersSeen: a part of its runs.
-/
import Derived.Test.YtmhjecenmgbpeaaDoorDBsDef
set_option linter.unusedSimpArgs false
set_option linter.unusedVariables false
namespace Go.Proofs.YtmhjecenmgbpeaaDoor
open Go.Ev
theorem bs7o (number field w : Int) : (callF EBS 5000 3 [.sym .u64 number, .sym .u8 field, .sym .u64 w] ⟨tabsH [(0, btab)], 1, gnm 0, [.k 9, .b false, .k 7, .l 7, .b false, .k 7, .b false], [], [], true⟩).map (fun x => (x.1, x.2.ob, noneIn (tabsH [(0, btab)]) x.2.wr)) = some (.bool true, [TabIs btab (tabF btab),
 decide ((IntKind.u64.wrap ((IntKind.u64.wrap (IntKind.u64.wrap ((number.tmod 281474976710656) + 281474976710656) - 1)) - (number.tmod 281474976710656))).tmod 281474976710656 < 140737488355328) = false,
 decide ((IntKind.u64.wrap ((IntKind.u64.wrap (IntKind.u64.wrap ((number.tmod 281474976710656) + 281474976710656) - 1)) - (number.tmod 281474976710656))).tmod 281474976710656 < 140737488355328) = false,
 (IntKind.i64.wrap field).tmod 10 = 7,
 decide ((IntKind.u64.wrap ((IntKind.u64.wrap (IntKind.u64.wrap ((number.tmod 281474976710656) + 281474976710656) - 1)) - (number.tmod 281474976710656))).tmod 281474976710656 < 140737488355328) = false], true) := by kernel_rfl
theorem bs8o (number field w : Int) : (callF EBS 5000 3 [.sym .u64 number, .sym .u8 field, .sym .u64 w] ⟨tabsH [(0, btab)], 1, gnm 0, [.k 9, .b false, .k 7, .l 8, .b false, .k 7, .b false], [], [], true⟩).map (fun x => (x.1, x.2.ob, noneIn (tabsH [(0, btab)]) x.2.wr)) = some (.bool true, [TabIs btab (tabF btab),
 decide ((IntKind.u64.wrap ((IntKind.u64.wrap (IntKind.u64.wrap ((number.tmod 281474976710656) + 281474976710656) - 1)) - (number.tmod 281474976710656))).tmod 281474976710656 < 140737488355328) = false,
 decide ((IntKind.u64.wrap ((IntKind.u64.wrap (IntKind.u64.wrap ((number.tmod 281474976710656) + 281474976710656) - 1)) - (number.tmod 281474976710656))).tmod 281474976710656 < 140737488355328) = false,
 (IntKind.i64.wrap field).tmod 10 = 8,
 decide ((IntKind.u64.wrap ((IntKind.u64.wrap (IntKind.u64.wrap ((number.tmod 281474976710656) + 281474976710656) - 1)) - (number.tmod 281474976710656))).tmod 281474976710656 < 140737488355328) = false], true) := by kernel_rfl
theorem bs9o (number field w : Int) : (callF EBS 5000 3 [.sym .u64 number, .sym .u8 field, .sym .u64 w] ⟨tabsH [(0, btab)], 1, gnm 0, [.k 9, .b false, .k 7, .l 9, .b false, .k 7, .b false], [], [], true⟩).map (fun x => (x.1, x.2.ob, noneIn (tabsH [(0, btab)]) x.2.wr)) = some (.bool true, [TabIs btab (tabF btab),
 decide ((IntKind.u64.wrap ((IntKind.u64.wrap (IntKind.u64.wrap ((number.tmod 281474976710656) + 281474976710656) - 1)) - (number.tmod 281474976710656))).tmod 281474976710656 < 140737488355328) = false,
 decide ((IntKind.u64.wrap ((IntKind.u64.wrap (IntKind.u64.wrap ((number.tmod 281474976710656) + 281474976710656) - 1)) - (number.tmod 281474976710656))).tmod 281474976710656 < 140737488355328) = false,
 (IntKind.i64.wrap field).tmod 10 = 9,
 decide ((IntKind.u64.wrap ((IntKind.u64.wrap (IntKind.u64.wrap ((number.tmod 281474976710656) + 281474976710656) - 1)) - (number.tmod 281474976710656))).tmod 281474976710656 < 140737488355328) = false], true) := by kernel_rfl
end Go.Proofs.YtmhjecenmgbpeaaDoor
