/-
  ZBsB and what follows it.
-/
import Derived.Test.YtlpcdjhojfopjaaGreatDoorZBsA
import Derived.Test.YtlpcdjhojfopjaaGreatDoorTie
import Derived.Test.YtlpcdjhojfopjaaGreatDoorCards
import Derived.LaidMore
import Derived.ChangeMaps5
import Derived.OpenShut
import Derived.SevenTiedAt
/-
  BlocksPlay: the lifted theorem.
-/
set_option linter.unusedSimpArgs false
set_option linter.unusedVariables false
namespace Go.Proofs.YtlpcdjhojfopjaaGreatDoor
open Go.Ev Go.ChangeShapes Go.WideShapes Go.ChangeAt Go.RowKit
set_option maxRecDepth 100000
set_option maxRecDepth 100000 in
theorem blocksPlay_lifted (os : Os) (started : os.Started) (H : Type) (enc : TypeId × Value → H) :
    ReturnsInHanded {} Tryz.checked os 4 .any (fun w args => (Rows.blocksPlaySpec.pre enc Tryz.prog Tryz.f4 [] false w args ∧ laidMetH Tryz.prog [("ragpicker/words.fields", Rows.laid_ragpicker_words_fields)] w) ∧ sizedMet enc Tryz.prog Tryz.f4 (OpenSpec.ofChange Rows.blocksPlaySpec) false w args)
      (Rows.blocksPlaySpec.post enc Tryz.prog Tryz.f4 false true false false) := by
  refine returnsInHanded_of_change_and (C := Tryz.checked) (X := fun w _ => laidMetH Tryz.prog [("ragpicker/words.fields", Rows.laid_ragpicker_words_fields)] w) (fun _ _ _ hh h => h.of_heap hh) hown started (by kernel_rfl) Tryz.func4
    (ChangeSpec.witness_shaped (enc := enc) (C := Tryz.checked) (os := os) (X := fun w _ => laidMetH Tryz.prog [("ragpicker/words.fields", Rows.laid_ragpicker_words_fields)] w) false (World.doorLaid Tryz.prog 400 os) #[.slice none 0 0, .slice none 0 0] 8 rfl (World.shaped_of_RefB (by kernel_rfl) (by kernel_rfl)) (by kernel_rfl) (by kernel_rfl) (by kernel_rfl) (blocksPlay_met os _)) ?_
  intro W base args ds gs before hval0 hW _ _ hL _
  exact law_contractT Tryz.params4 blocksPlay_runs hlaidOut (of_decide_eq_true (by kernel_rfl)) (by kernel_rfl) Tryz.underlying4 rfl
    (fun ds hl => by match ds, hl with | [d0, d1], _ => exact ⟨rfl, rfl, rfl⟩) W base args ds gs before hval0 hW (tabs_laid (by kernel_rfl) blocksPlay_tabs hL)


end Go.Proofs.YtlpcdjhojfopjaaGreatDoor

/-
  For all inputs, BlocksPlay returns true; its arguments read as before. No condition.
-/
set_option linter.unusedSimpArgs false
set_option linter.unusedVariables false
namespace Go.Proofs.YtlpcdjhojfopjaaGreatDoor
open Go.Ev Go.ChangeShapes Go.WideShapes Go.ChangeAt Go.RowKit
set_option maxRecDepth 100000
theorem blocksPlay_j1 : (Rows.blocksPlayRow.inPlace == Tryz.checked.prog.inPlace 4) = true := by kernel_rfl
theorem blocksPlay_j2 : (Rows.blocksPlayRow.unfollowed == Tryz.checked.prog.unfollowed 4) = true := by kernel_rfl
theorem blocksPlay_j3 : (Rows.blocksPlayRow.recurses == Tryz.checked.prog.recurses 4) = true := by kernel_rfl
theorem blocksPlay_j4 : (Rows.blocksPlayRow.named == Tryz.checked.prog.varsNamed 4) = true := by kernel_rfl
theorem blocksPlay_joined : joinedFacts Tryz.checked.prog 4 Tryz.f4 Rows.blocksPlaySpec Rows.blocksPlayRow = true := by
  unfold joinedFacts
  rw [blocksPlay_j1, blocksPlay_j2, blocksPlay_j3, blocksPlay_j4]
  kernel_rfl
theorem blocksPlay_looks : true = Tryz.checked.prog.looks [] := by kernel_rfl
theorem blocksPlay_goes : false = Rows.blocksPlayRow.goesBy Tryz.checked.prog := by kernel_rfl
theorem blocksPlay_named : Tryz.prog.funcNamed "ragpicker/ragpickerlaw11.BlocksPlay" = some 4 := by kernel_rfl
theorem blocksPlay_row : Rows.BlocksPlaySaid :=
  OpenClaim.holds_of_wide 4 Tryz.f4 rfl rfl rfl rfl rfl rfl rfl ⟨rfl, rfl, rfl, rfl, rfl⟩ rfl rfl rfl rfl rfl (by kernel_rfl) Tryz.func4 blocksPlay_joined
    (of_decide_eq_true (by kernel_rfl)) (by unfold Func.isWrapper; first | (rw [if_pos (by decide +kernel)]; kernel_rfl) | (rw [if_neg (by decide +kernel)]; exact ⟨rfl, rfl⟩))
    (fun os started H enc _ => blocksPlay_lifted os started H enc)

theorem blocksPlay_holds : Rows.BlocksPlayCardSaid :=
  Claim7.holds_tied_plain_at .later [] [.data] true (true, "94b9bb3182a009a6add62c3d84a51b0469b32bbdcb64caa7f0f7accb154555f7") true blocksPlay_row (fun _ h => by cases h) (by kernel_rfl) (fun _ h => by cases h) blocksPlay_row_tie rfl ⟨rfl, rfl⟩ (by kernel_rfl) rfl
    (fun f fn hf hfn => by
      obtain rfl : f = 4 := Option.some.inj (blocksPlay_named.symm.trans hf) |>.symm
      obtain rfl : fn = Tryz.f4 := (Option.some.inj (Tryz.func4.symm.trans hfn)).symm
      exact ⟨blocksPlay_looks, fun j t ht => by
        rw [Tryz.params4] at ht
        have hm : t ∈ [56, 57] := by simpa using Array.mem_of_getElem? ht
        have hall : ([56, 57].all fun u => !Tryz.prog.wantsStandIn u) = true := by kernel_rfl
        exact (show Tryz.prog.wantsStandIn t = false by simpa using List.all_eq_true.1 hall t hm)⟩)
    blocksPlay_goes

#print axioms blocksPlay_holds
end Go.Proofs.YtlpcdjhojfopjaaGreatDoor
