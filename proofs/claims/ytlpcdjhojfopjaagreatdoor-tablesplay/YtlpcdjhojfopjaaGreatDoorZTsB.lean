/-
  ZTsB and what follows it.
-/
import Derived.Test.YtlpcdjhojfopjaaGreatDoorZTsA
import Derived.Test.YtlpcdjhojfopjaaGreatDoorTie
import Derived.Test.YtlpcdjhojfopjaaGreatDoorCards
import Derived.LaidMore
import Derived.ChangeMaps5
import Derived.OpenShut
import Derived.SevenTiedAt
/-
  TablesPlay: the lifted theorem.
-/
set_option linter.unusedSimpArgs false
set_option linter.unusedVariables false
namespace Go.Proofs.YtlpcdjhojfopjaaGreatDoor
open Go.Ev Go.ChangeShapes Go.WideShapes Go.ChangeAt Go.RowKit
set_option maxRecDepth 100000
set_option maxRecDepth 100000 in
theorem tablesPlay_lifted (os : Os) (started : os.Started) (H : Type) (enc : TypeId × Value → H) :
    ReturnsInHanded {} Tryz.checked os 5 .any (fun w args => (Rows.tablesPlaySpec.pre enc Tryz.prog Tryz.f5 [] false w args ∧ laidMetH Tryz.prog [("ragpicker/words.fields", Rows.laid_ragpicker_words_fields)] w) ∧ sizedMet enc Tryz.prog Tryz.f5 (OpenSpec.ofChange Rows.tablesPlaySpec) false w args)
      (Rows.tablesPlaySpec.post enc Tryz.prog Tryz.f5 false true false false) := by
  refine returnsInHanded_of_change_and (C := Tryz.checked) (X := fun w _ => laidMetH Tryz.prog [("ragpicker/words.fields", Rows.laid_ragpicker_words_fields)] w) (fun _ _ _ hh h => h.of_heap hh) hown started (by kernel_rfl) Tryz.func5
    (ChangeSpec.witness_shaped (enc := enc) (C := Tryz.checked) (os := os) (X := fun w _ => laidMetH Tryz.prog [("ragpicker/words.fields", Rows.laid_ragpicker_words_fields)] w) false (World.doorLaid Tryz.prog 400 os) #[.slice none 0 0, .slice none 0 0] 8 rfl (World.shaped_of_RefB (by kernel_rfl) (by kernel_rfl)) (by kernel_rfl) (by kernel_rfl) (by kernel_rfl) (tablesPlay_met os _)) ?_
  intro W base args ds gs before hval0 hW _ _ hL _
  exact law_contractT Tryz.params5 tablesPlay_runs hlaidOut (of_decide_eq_true (by kernel_rfl)) (by kernel_rfl) Tryz.underlying4 rfl
    (fun ds hl => by match ds, hl with | [d0, d1], _ => exact ⟨rfl, rfl, rfl⟩) W base args ds gs before hval0 hW (tabs_laid (by kernel_rfl) tablesPlay_tabs hL)


end Go.Proofs.YtlpcdjhojfopjaaGreatDoor

/-
  For all inputs, TablesPlay returns true; its arguments read as before. No condition.
-/
set_option linter.unusedSimpArgs false
set_option linter.unusedVariables false
namespace Go.Proofs.YtlpcdjhojfopjaaGreatDoor
open Go.Ev Go.ChangeShapes Go.WideShapes Go.ChangeAt Go.RowKit
set_option maxRecDepth 100000
theorem tablesPlay_j1 : (Rows.tablesPlayRow.inPlace == Tryz.checked.prog.inPlace 5) = true := by kernel_rfl
theorem tablesPlay_j2 : (Rows.tablesPlayRow.unfollowed == Tryz.checked.prog.unfollowed 5) = true := by kernel_rfl
theorem tablesPlay_j3 : (Rows.tablesPlayRow.recurses == Tryz.checked.prog.recurses 5) = true := by kernel_rfl
theorem tablesPlay_j4 : (Rows.tablesPlayRow.named == Tryz.checked.prog.varsNamed 5) = true := by kernel_rfl
theorem tablesPlay_joined : joinedFacts Tryz.checked.prog 5 Tryz.f5 Rows.tablesPlaySpec Rows.tablesPlayRow = true := by
  unfold joinedFacts
  rw [tablesPlay_j1, tablesPlay_j2, tablesPlay_j3, tablesPlay_j4]
  kernel_rfl
theorem tablesPlay_looks : true = Tryz.checked.prog.looks [] := by kernel_rfl
theorem tablesPlay_goes : false = Rows.tablesPlayRow.goesBy Tryz.checked.prog := by kernel_rfl
theorem tablesPlay_named : Tryz.prog.funcNamed "ragpicker/ragpickerlaw10.TablesPlay" = some 5 := by kernel_rfl
theorem tablesPlay_row : Rows.TablesPlaySaid :=
  OpenClaim.holds_of_wide 5 Tryz.f5 rfl rfl rfl rfl rfl rfl rfl ⟨rfl, rfl, rfl, rfl, rfl⟩ rfl rfl rfl rfl rfl (by kernel_rfl) Tryz.func5 tablesPlay_joined
    (of_decide_eq_true (by kernel_rfl)) (by unfold Func.isWrapper; first | (rw [if_pos (by decide +kernel)]; kernel_rfl) | (rw [if_neg (by decide +kernel)]; exact ⟨rfl, rfl⟩))
    (fun os started H enc _ => tablesPlay_lifted os started H enc)

theorem tablesPlay_holds : Rows.TablesPlayCardSaid :=
  Claim7.holds_tied_plain_at .later [] [.data] true (true, "94b9bb3182a009a6add62c3d84a51b0469b32bbdcb64caa7f0f7accb154555f7") true tablesPlay_row (fun _ h => by cases h) (by kernel_rfl) (fun _ h => by cases h) tablesPlay_row_tie rfl ⟨rfl, rfl⟩ (by kernel_rfl) rfl
    (fun f fn hf hfn => by
      obtain rfl : f = 5 := Option.some.inj (tablesPlay_named.symm.trans hf) |>.symm
      obtain rfl : fn = Tryz.f5 := (Option.some.inj (Tryz.func5.symm.trans hfn)).symm
      exact ⟨tablesPlay_looks, fun j t ht => by
        rw [Tryz.params5] at ht
        have hm : t ∈ [71, 57] := by simpa using Array.mem_of_getElem? ht
        have hall : ([71, 57].all fun u => !Tryz.prog.wantsStandIn u) = true := by kernel_rfl
        exact (show Tryz.prog.wantsStandIn t = false by simpa using List.all_eq_true.1 hall t hm)⟩)
    tablesPlay_goes

#print axioms tablesPlay_holds
end Go.Proofs.YtlpcdjhojfopjaaGreatDoor
