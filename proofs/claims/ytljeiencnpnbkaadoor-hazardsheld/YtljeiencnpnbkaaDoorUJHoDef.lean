/-
  UJHoDef and what follows it.
-/
import Derived.Test.YtljeiencnpnbkaaDoorUJHn
/-
  Hazards: the words of one thread, the loop: definitions.
-/
set_option linter.unusedSimpArgs false
set_option linter.unusedVariables false
namespace Go.Proofs.YtljeiencnpnbkaaDoor.J
open Go.Ev


end Go.Proofs.YtljeiencnpnbkaaDoor.J

/-
  Hazards: the words of one thread, the loop.
-/
set_option linter.unusedSimpArgs false
set_option linter.unusedVariables false
namespace Go.Proofs.YtljeiencnpnbkaaDoor.J
open Go.Ev
theorem hnx_1 (m : Nat) (f : Nat → Nat → AV) (ii : Nat) (M : List Int → Option Int) : roundB EHm 3000 hnL ((hnS m f ii M 3).hp) [] (hnS m f ii M 3) [] (hnX m f ii M) =
 some (Ex.exit 2, [(0 : Nat) = 0,
 m = m,
 some m = some m,
 Int.ofNat m = Int.ofNat m,
 Int.ofNat ii = Int.ofNat ii,
 ∀ (k : List Int), M k = M k,
 true = true,
 (1 : Nat) ≤ (1 : Nat),
 tabF tab = tabF tab ∧ plainSh (List.map kindOfV tab) = true ∨ ∀ (i : Nat), i < 1 → rowOb (List.map kindOfV tab) 0 (tabF tab i) (tabF tab i),
 false = false,
 m ≤ m,
 f = f ∧ plainSh [CK.int IntKind.u64, CK.int IntKind.u64, CK.int IntKind.u64, CK.int IntKind.u64, CK.int IntKind.u64, CK.int IntKind.u64, CK.int IntKind.u64, CK.int IntKind.u64, CK.int IntKind.u64, CK.int IntKind.u64] = true ∨ ∀ (i : Nat), i < m → rowOb [CK.int IntKind.u64, CK.int IntKind.u64, CK.int IntKind.u64, CK.int IntKind.u64, CK.int IntKind.u64, CK.int IntKind.u64, CK.int IntKind.u64, CK.int IntKind.u64, CK.int IntKind.u64, CK.int IntKind.u64] 0 (f i) (f i)]) := by kernel_rfl
noncomputable def hnLP (m : Nat) (f : Nat → Nat → AV) (ii : Nat) : Prop := LoopHolds Tryd.prog hnL (hnS m f ii (hM f ii) 0) (.exit 2) (hnX m f ii (hM f (ii + 1)))
theorem hn_exit (m : Nat) (f : Nat → Nat → AV) (ii : Nat) (M : List Int → Option Int) : CodeHolds Tryd.prog hnL (hnS m f ii M 3) (.exit 2) (hnX m f ii M) := by
  refine code_of EHm_ok (hnx_1 m f ii M) (ob_cons rfl (ob_cons rfl (ob_cons rfl (ob_cons rfl (ob_cons rfl (ob_cons (fun _ => rfl) (ob_cons rfl (ob_cons (Nat.le_refl _) (ob_cons (.inl ⟨rfl, rfl⟩) (ob_cons rfl (ob_cons (Nat.le_refl _) (ob_cons (.inl ⟨rfl, rfl⟩) ob_nil)))))))))))) rfl (by show 5 ≤ gnm 0; unfold gnm; omega)
theorem hn_lp (m : Nat) (f : Nat → Nat → AV) (ii : Nat) (hw : ∀ j, 0 ≤ avInt (f (0 + ii) j) ∧ avInt (f (0 + ii) j) < 18446744073709551616) : hnLP m f ii := by
  have mm : ∀ (M M' : List Int → Option Int) (k k' : Int), Mono (hnS m f ii M k).hp (hnS m f ii M' k').hp := fun M M' k k' => ⟨fun p hp => (by cases hp), Nat.le_refl 5, rfl, fun n hn => hn⟩
  have mx : ∀ (M M' : List Int → Option Int) (k : Int), Mono (hnS m f ii M k).hp (hnX m f ii M').hp := fun M M' k => ⟨fun p hp => (by cases hp), Nat.le_refl 5, rfl, fun n hn => hn⟩
  exact rounds_loop (rounds_next (hnT0 m f ii _ (hw 7).1 (hw 7).2) (rounds_next (hnT1 m f ii _ (hw 8).1 (hw 8).2) (rounds_next (hnT2 m f ii _ (hw 9).1 (hw 9).2) (rounds_last (by simp) (hn_exit m f ii _)) (mm _ _ _ _) (mx _ _ _)) (mm _ _ _ _) (mx _ _ _)) (mm _ _ _ _) (mx _ _ _))
end Go.Proofs.YtljeiencnpnbkaaDoor.J
