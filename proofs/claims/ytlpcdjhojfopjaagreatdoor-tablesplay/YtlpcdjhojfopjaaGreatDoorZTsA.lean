/-
  TablesPlay: its run in the words of a law.
-/
import Derived.Test.YtlpcdjhojfopjaaGreatDoorZTs
import Derived.Test.YtlpcdjhojfopjaaGreatDoorTie
import Derived.Test.YtlpcdjhojfopjaaGreatDoorCards
import Derived.LaidMore
import Derived.ChangeMaps5
import Derived.OpenShut
import Derived.SevenTiedAt
set_option linter.unusedSimpArgs false
set_option linter.unusedVariables false
namespace Go.Proofs.YtlpcdjhojfopjaaGreatDoor
open Go.Ev Go.ChangeShapes Go.WideShapes Go.ChangeAt Go.RowKit
set_option maxRecDepth 100000
theorem hown : ownKnob Tryz.prog.godebug = none := by kernel_rfl
theorem hlaidOut : laidOutB Tryz.prog = true := by kernel_rfl
theorem k74 : flatK Tryz.prog 4 74 = some asSh := by kernel_rfl
theorem k35 : flatK Tryz.prog 4 35 = some wSh := by kernel_rfl
theorem tablesPlay_tabs : TabsOk Tryz.prog [("ragpicker/words.fields", Rows.laid_ragpicker_words_fields)] [(0, tab)] := tabsOkB_ok (by kernel_rfl)
set_option maxRecDepth 100000 in
theorem tablesPlay_runs : LawRunsT Tryz.prog 5 [71, 57] [(0, tab)] := by
  intro H enc W base args ds p hval hA htab
  obtain ⟨v0, v1, d0, d1, p0, p1, hargs, rfl, rfl, h0, h1⟩ := trodAll_two (args := args.toArray) hA
  obtain rfl : args = [v0, v1] := by simpa using congrArg Array.toList hargs
  obtain ⟨fuel0, h0⟩ := h0
  obtain ⟨c0, l0, q0, rfl⟩ := okWide_slice Tryz.underlying71 (hval 0 71 v0 rfl rfl)
  obtain ⟨L0, len0, num0, bit0, hw0, hs0, hl0, hm0, hn0, hob0, hwf0⟩ := open_rows Tryz.underlying71 k74 (by kernel_rfl) (by decide) (okWide_spot Tryz.underlying71 (hval 0 71 _ rfl rfl)) (by simpa [Value.cells] using h0)
  have hs0 : L0.slice 6 0 len0 none = some (.slice c0 l0 q0) := hs0
  obtain ⟨fuel1, h1⟩ := h1
  obtain ⟨c1, l1, q1, rfl⟩ := okWide_slice Tryz.underlying57 (hval 1 57 v1 rfl rfl)
  obtain ⟨L1, len1, num1, bit1, hw1, hs1, hl1, hm1, hn1, hob1, hwf1⟩ := open_rows Tryz.underlying57 k35 (by kernel_rfl) (by decide) (okWide_spot Tryz.underlying57 (hval 1 57 _ rfl rfl)) (by simpa [Value.cells] using h1)
  have hs1 : L1.slice 4 0 len1 none = some (.slice c1 l1 q1) := hs1
  obtain ⟨h, x, ob, hr, hx, hob⟩ := ts_runs len0 (rowAV asSh num0 bit0) len1 (rowAV wSh num1 bit1) (fun i hi => ⟨(u8_range (hwf0 i hi 2 .u8 rfl)).1, u64_range (hwf0 i hi 5 .u64 rfl), (i64_range (hwf0 i hi 1 .i64 rfl)).2⟩) (fun i hi => ⟨(u8_range (hwf1 i hi 0 .u8 rfl)).1, (u64_range (hwf1 i hi 3 .u64 rfl)).1, (u64_range (hwf1 i hi 3 .u64 rfl)).2⟩)
  have e0 : inpT [(1, L0), (2, L1)] [(0, tab)] 1 = some L0 := inpT_of rfl
  have e1 : inpT [(1, L0), (2, L1)] [(0, tab)] 2 = some L1 := inpT_of rfl
  exact run_lawG (W := W) (ρ := inpT [(1, L0), (2, L1)] [(0, tab)]) Ets_ok hr hx hob (heapRepT (heap := [(1, .arr 6 asSh true len0 (rowAV asSh num0 bit0)), (2, .arr 4 wSh true len1 (rowAV wSh num1 bit1))]) (ls := [(1, L0), (2, L1)]) (tabs := [(0, tab)]) (nxt := 3) rfl (by decide) rfl htab (rep_cons rfl rfl hob0 (rep_cons rfl rfl hob1 rep_nil))) (xs := [.slice c0 l0 q0, .slice c1 l1 q1])
    (by simp [denL, den, e0, hs0, e1, hs1]) (inpT_fresh (nxt := 3) rfl (Nat.le_refl _)) (inpT_glob (nxt := 3) rfl (by decide))

theorem tablesPlay_met (os : Os) (args : Array Value) : laidMetH Tryz.prog [("ragpicker/words.fields", Rows.laid_ragpicker_words_fields)] ((World.doorLaid Tryz.prog 400 os).forCall (fun _ _ => 0) ⟨#[], args, []⟩).memory :=
  laidMetH_of_parts3 (fuel := 8) (laidMet_of_run' 8 (by kernel_rfl) (by kernel_rfl)) (by kernel_rfl) (by kernel_rfl)

end Go.Proofs.YtlpcdjhojfopjaaGreatDoor
