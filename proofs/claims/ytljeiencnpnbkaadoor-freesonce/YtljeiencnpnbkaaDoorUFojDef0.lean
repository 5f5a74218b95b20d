/-
  UFojDef0 and what follows it.
-/
import Derived.Test.YtljeiencnpnbkaaDoorUFog
/-
  FreesOnce: apart, its body: definitions.
-/
set_option linter.unusedSimpArgs false
set_option linter.unusedVariables false
namespace Go.Proofs.YtljeiencnpnbkaaDoor
open Go.Ev
noncomputable def faC : Code := match Tryd.f45.body with
  | some c => c
  | none => .skip
noncomputable def faA : List Code := [fstC faC, fstC (sndC faC)]
noncomputable def faR2 : Code := fstC (fstC (sndC (sndC faC)))
noncomputable def faD : Code := sndC (sndC (sndC faC))
theorem fa_body : faC = seqs faA (.seq (.seq faR2 (.block 0 (.loop fagL))) faD) := by kernel_rfl
section
variable (m : Nat) (f : Nat → Nat → AV) (n : Nat) (S : MS) (T : Nat → FW) (B : Nat → Bool)
noncomputable def fa0 : FSt := ⟨[.ss 3 5 0 6 (some 6), .sym .i64 (Int.ofNat n)] ++ List.replicate 49 (.tup []), [(gnm 0, tabAO tab), (3, .cells 9 (.map 2 :: lsL S.st S.L)), (2, .map 110 S.M), (1, .arr 1 [.int .u8] true m f)], 6, fun k => foMb (T k), [5, 3, 2]⟩
noncomputable def fa1 : FSt := ⟨[.ss 3 5 0 6 (some 6), .sym .i64 (Int.ofNat n), .top, .top, .bool false, .ss 1 6 0 n (some n)] ++ List.replicate 45 .top, [(6, .arr 1 [.bool] false n (BF B)), (gnm 0, tabAO tab), (3, .cells 9 (.map 2 :: lsL S.st S.L)), (2, .map 110 S.M), (1, .arr 1 [.int .u8] true m f)], 6, fun k => foMb (T k), [6, 5, 3, 2]⟩
noncomputable def fa3 (b : Bool) : FSt := ⟨[.top, .top, .top, .top, .bool b] ++ List.replicate 46 .top, [(gnm 0, tabAO tab), (3, .cells 9 (.map 2 :: lsL S.st S.L)), (2, .map 110 S.M), (1, .arr 1 [.int .u8] true m f)], 6, fun k => foMb (T k), [6, 5, 3, 2]⟩
end
theorem fa0Good {m : Nat} {f : Nat → Nat → AV} {n : Nat} {S : MS} {T : Nat → FW} : FGood foF (fa0 m f n S T) := ⟨⟨by kernel_rfl, by kernel_rfl, fun i _ => foMb_ok _⟩, by show 6 ≤ 1000000; omega⟩
theorem fa1Good {m : Nat} {f : Nat → Nat → AV} {n : Nat} {S : MS} {T : Nat → FW} {B : Nat → Bool} : FGood foF (fa1 m f n S T B) := ⟨⟨by kernel_rfl, by kernel_rfl, fun i _ => foMb_ok _⟩, by show 6 ≤ 1000000; omega⟩
theorem fa3Good {m : Nat} {f : Nat → Nat → AV} {S : MS} {T : Nat → FW} {b : Bool} : FGood foF (fa3 m f S T b) := ⟨⟨by kernel_rfl, by kernel_rfl, fun i _ => foMb_ok _⟩, by show 6 ≤ 1000000; omega⟩
theorem fa_rows6 {c : CM} (hc : c.hi ≤ fam0) (T : Nat → FW) : ∀ i, i < 6 → rowV c [.val, .val, .val] 0 (lrow fam0 2 (fun k => foMb (T k)) 6 i) (lrow fam0 2 (fun k => foMb (T k)) 6 i) := fun i hi =>
  fam_rowsK (F := foF) hc (n' := 6) (M := fun k => foMb (T k)) (M' := fun k => foMb (T k)) (j := 6) (src := fun i => lrow fam0 2 (fun k => foMb (T k)) 6 i) (fun i _ hi => ⟨foMb_ok _, rfl, fun cc => lrow_ne hi⟩) (fun h => absurd h (by decide)) i hi
end Go.Proofs.YtljeiencnpnbkaaDoor

/-
  FreesOnce: apart, its body: definitions.
-/
set_option linter.unusedSimpArgs false
set_option linter.unusedVariables false
namespace Go.Proofs.YtljeiencnpnbkaaDoor
open Go.Ev


end Go.Proofs.YtljeiencnpnbkaaDoor
