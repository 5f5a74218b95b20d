/-
  BlocksEmpty: a part of its runs.
-/
import Derived.Test.YtofopjkjmhepeaaDoorTEmDef
set_option linter.unusedSimpArgs false
set_option linter.unusedVariables false
namespace Go.Proofs.YtofopjkjmhepeaaDoor
open Go.Ev
theorem e0t0 (b a : Int) : (callF EE 6000 8 [.sym .u8 b, .symb true, .sym .u8 a] ⟨tabsH [(0, tab)], 1, gnm 0, [.l 0, .l 0], [], [], true⟩).map (fun x => (x.1, x.2.ob, noneIn (tabsH [(0, tab)]) x.2.wr)) = some (.bool true, [TabIs tab (tabF tab), (IntKind.i64.wrap a).tmod 4 = 0, (IntKind.i64.wrap b).tmod 4 = 0], true) := by kernel_rfl
theorem e1f (b a : Int) : (callF EE 6000 8 [.sym .u8 b, .symb false, .sym .u8 a] ⟨tabsH [(0, tab)], 1, gnm 0, [.l 1], [], [], true⟩).map (fun x => (x.1, x.2.ob, noneIn (tabsH [(0, tab)]) x.2.wr)) = some (.bool true, [TabIs tab (tabF tab), (IntKind.i64.wrap b).tmod 4 = 1], true) := by kernel_rfl
theorem e1t3 (b a : Int) : (callF EE 6000 8 [.sym .u8 b, .symb true, .sym .u8 a] ⟨tabsH [(0, tab)], 1, gnm 0, [.l 1, .l 3], [], [], true⟩).map (fun x => (x.1, x.2.ob, noneIn (tabsH [(0, tab)]) x.2.wr)) = some (.bool true, [TabIs tab (tabF tab), (IntKind.i64.wrap a).tmod 5 = 3, (IntKind.i64.wrap b).tmod 4 = 1], true) := by kernel_rfl
theorem e2t1 (b a : Int) : (callF EE 6000 8 [.sym .u8 b, .symb true, .sym .u8 a] ⟨tabsH [(0, tab)], 1, gnm 0, [.l 2, .l 1], [], [], true⟩).map (fun x => (x.1, x.2.ob, noneIn (tabsH [(0, tab)]) x.2.wr)) = some (.bool true, [TabIs tab (tabF tab), (IntKind.i64.wrap a).tmod 6 = 1, (IntKind.i64.wrap b).tmod 4 = 2], true) := by kernel_rfl
theorem e2t5 (b a : Int) : (callF EE 6000 8 [.sym .u8 b, .symb true, .sym .u8 a] ⟨tabsH [(0, tab)], 1, gnm 0, [.l 2, .l 5], [], [], true⟩).map (fun x => (x.1, x.2.ob, noneIn (tabsH [(0, tab)]) x.2.wr)) = some (.bool true, [TabIs tab (tabF tab), (IntKind.i64.wrap a).tmod 6 = 5, (IntKind.i64.wrap b).tmod 4 = 2], true) := by kernel_rfl
theorem e3t2 (b a : Int) : (callF EE 6000 8 [.sym .u8 b, .symb true, .sym .u8 a] ⟨tabsH [(0, tab)], 1, gnm 0, [.l 3, .l 2], [], [], true⟩).map (fun x => (x.1, x.2.ob, noneIn (tabsH [(0, tab)]) x.2.wr)) = some (.bool true, [TabIs tab (tabF tab), (IntKind.i64.wrap a).tmod 7 = 2, (IntKind.i64.wrap b).tmod 4 = 3], true) := by kernel_rfl
theorem e3t6 (b a : Int) : (callF EE 6000 8 [.sym .u8 b, .symb true, .sym .u8 a] ⟨tabsH [(0, tab)], 1, gnm 0, [.l 3, .l 6], [], [], true⟩).map (fun x => (x.1, x.2.ob, noneIn (tabsH [(0, tab)]) x.2.wr)) = some (.bool true, [TabIs tab (tabF tab), (IntKind.i64.wrap a).tmod 7 = 6, (IntKind.i64.wrap b).tmod 4 = 3], true) := by kernel_rfl
end Go.Proofs.YtofopjkjmhepeaaDoor
