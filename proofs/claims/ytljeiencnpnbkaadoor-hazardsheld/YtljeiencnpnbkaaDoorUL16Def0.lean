/-
  UL16Def0 and what follows it.
-/
import Derived.Test.YtljeiencnpnbkaaDoorUJHq
import Derived.Test.YtljeiencnpnbkaaDoorUHlLaw
import Derived.Test.YtljeiencnpnbkaaDoorEvCv
/-
  The example of chapter 16: definitions.
-/
set_option linter.unusedSimpArgs false
set_option linter.unusedVariables false
namespace Go.Proofs.YtljeiencnpnbkaaDoor
open Go.Ev
def l16F : Nat → Nat → AV := cvF [.int .u64, .int .u64, .int .u64, .int .u64, .int .u64, .int .u64, .int .u64, .int .u64, .int .u64, .int .u64] 10 [.int .u64 0, .int .u64 0, .int .u64 0, .int .u64 0, .int .u64 0, .int .u64 0, .int .u64 0, .sym .u64 65540, .int .u64 0, .int .u64 0]
noncomputable def EL16 : Env := envG Tryd.prog [(59, tabSP 0 tab unmS), (111, tabSP 0 tab arfS), (10, cvSP 10 [.int .u64, .int .u64, .int .u64, .int .u64, .int .u64, .int .u64, .int .u64, .int .u64, .int .u64, .int .u64] (locSP J.hldSpec)), (13, cvSP 10 [.int .u64, .int .u64, .int .u64, .int .u64, .int .u64, .int .u64, .int .u64, .int .u64, .int .u64, .int .u64] (locSP J.mahSpec))]
theorem EL16_ok : EnvOk EL16 := envG_ok mgood ⟨tabSP_ok rfl unmS_ok, tabSP_ok rfl arfS_ok, cvSP_ok _ _ (locSP_ok J.hldSpec_ok), cvSP_ok _ _ (locSP_ok J.mahSpec_ok), trivial⟩
theorem l16_M : hM l16F 1 = setKey (fun _ => none) [3, 1, 0] (some 1) := by
  show hAdd (hAdd (hAdd (fun _ => none) 65540) 0) 0 = _
  rw [hAdd_n (by decide), hAdd_n (by decide), hAdd_y (by decide)]
  rfl
theorem l16_hl : hlF (hM l16F 1) = [(3, 1)] := by
  refine hlF_eq ⟨by simp, fun k => ?_⟩
  rw [l16_M, setKey_get, List.mem_singleton]
  by_cases e : [k.1, k.2, 0] = [3, 1, 0]
  · rw [if_pos e]
    simp at e
    exact ⟨fun _ => by simp, fun _ => Prod.ext e.1 e.2⟩
  · rw [if_neg e]
    exact ⟨fun q => absurd (by rw [q]) e, fun q => absurd rfl q⟩
theorem l16_a : (mget (hM l16F 1) [3, 1, 0] == 0) = false := by rw [l16_M]; rfl
theorem l16_b : (mget (hM l16F 1) [3, 2, 0] == 0) = true := by rw [l16_M]; rfl
theorem l16_c : (Int.ofNat (hlF (hM l16F 1)).length == 1) = true := by rw [l16_hl]; rfl
theorem l16_d : Nat.blt 0 (hlF (hM l16F 1)).length = true := by rw [l16_hl]; rfl
theorem l16_e : (Nat.blt 0 (hlF (hM l16F 1)).length && decide ((0 : Int) ≤ 0)) = true := by rw [l16_hl]; rfl
theorem l16_g : (and2 (avInt (rfF (hlF (hM l16F 1)) 0 0) == 3) (and2 (avInt (rfF (hlF (hM l16F 1)) 0 1) == 1) (and2 (avBool (rfF (hlF (hM l16F 1)) 0 2) == false) true)) == true) = true := by rw [l16_hl]; rfl
theorem l16_f : ∀ i, i < 1 → ∀ j, 0 ≤ avInt (l16F (0 + i) j) ∧ avInt (l16F (0 + i) j) < 18446744073709551616 := by
  intro i hi j
  have e : i = 0 := by omega
  subst e
  have h : ∀ j, j < 10 → 0 ≤ avInt (l16F (0 + 0) j) ∧ avInt (l16F (0 + 0) j) < 18446744073709551616 := by decide
  by_cases c : j < 10
  · exact h j c
  · have h0 : l16F (0 + 0) j = .sym .u64 0 := by
      unfold l16F cvF
      rw [List.getElem?_eq_none (by simp; omega)]
    rw [h0]; decide
end Go.Proofs.YtljeiencnpnbkaaDoor

/-
  The example of chapter 16: definitions.
-/
set_option linter.unusedSimpArgs false
set_option linter.unusedVariables false
namespace Go.Proofs.YtljeiencnpnbkaaDoor
open Go.Ev

noncomputable def l16H (FT : Nat → Nat → AV) : List (Nat × AO) := [(gnm 0, .arr tab.length (tab.map kindOfV) true 1 FT)]
noncomputable def l16R (FT : Nat → Nat → AV) : LR := ⟨0, .bool true, [(gnm 0, .arr tab.length (tab.map kindOfV) true 1 FT)], 0, [], [FT = tabF tab]⟩
end Go.Proofs.YtljeiencnpnbkaaDoor
