/-
  UHqDef0 and what follows it.
-/
import Derived.Test.YtljeiencnpnbkaaDoorUHpDef
import Derived.Test.YtljeiencnpnbkaaDoorUKrh
/-
  Hazards: contracts for Held, May: definitions.
-/
set_option linter.unusedSimpArgs false
set_option linter.unusedVariables false
namespace Go.Proofs.YtljeiencnpnbkaaDoor
open Go.Ev
noncomputable def srfSpec : LSpec := fun la lh => match la, lh with
  | [.func (.func g1) [] [.ptr z1 z2 z3], .func (.func g2) [] []], [(z4, .cells z5 [.map z6]), (z7, .map z8 f)] =>
    match Nat.beq g1 110 && (Nat.beq g2 50 && (Nat.beq z1 1 && (Nat.beq z2 0 && (Nat.beq z3 0 && (Nat.beq z4 1 && (Nat.beq z5 1 && (Nat.beq z6 2 && (Nat.beq z7 2 && (Nat.beq z8 102))))))))) with
    | true => some (srfR f)
    | false => none
  | _, _ => none
theorem srfSpec_ok (la : List AV) (lh : List (Nat × AO)) (R : LR) (h : srfSpec la lh = some R) : LocOk Tryd.prog 47 la lh R := by
  unfold srfSpec at h
  split at h
  · rename_i g1 z1 z2 z3 g2 z4 z5 z6 z7 z8 f
    split at h
    · rename_i hb
      simp only [Bool.and_eq_true] at hb
      obtain ⟨e1, e2, e3, e4, e5, e6, e7, e8, e9, e10⟩ := hb
      have e1 := Nat.eq_of_beq_eq_true e1; subst e1
      have e2 := Nat.eq_of_beq_eq_true e2; subst e2
      have e3 := Nat.eq_of_beq_eq_true e3; subst e3
      have e4 := Nat.eq_of_beq_eq_true e4; subst e4
      have e5 := Nat.eq_of_beq_eq_true e5; subst e5
      have e6 := Nat.eq_of_beq_eq_true e6; subst e6
      have e7 := Nat.eq_of_beq_eq_true e7; subst e7
      have e8 := Nat.eq_of_beq_eq_true e8; subst e8
      have e9 := Nat.eq_of_beq_eq_true e9; subst e9
      have e10 := Nat.eq_of_beq_eq_true e10; subst e10
      cases h
      exact srf_loc f
    · cases h
  · cases h
noncomputable def EHl : Env := envG Tryd.prog [(49, locSP hmpSpec), (47, rawSP srfSpec)]
theorem EHl_ok : EnvOk EHl := envG_ok mgood ⟨locSP_ok hmpSpec_ok, rawSP_ok srfSpec_ok, trivial⟩
end Go.Proofs.YtljeiencnpnbkaaDoor

/-
  Hazards: Held, May: contracts: definitions.
-/
set_option linter.unusedSimpArgs false
set_option linter.unusedVariables false
namespace Go.Proofs.YtljeiencnpnbkaaDoor
open Go.Ev

noncomputable def hldH (m : Nat) (f : Nat → Nat → AV) (e : Int) (FT : Nat → Nat → AV) : List (Nat × AO) := [(gnm 0, .arr tab.length (tab.map kindOfV) true 1 FT), (1, .arr 10 [.int .u64, .int .u64, .int .u64, .int .u64, .int .u64, .int .u64, .int .u64, .int .u64, .int .u64, .int .u64] true m f)]
noncomputable def hldR (m : Nat) (f : Nat → Nat → AV) (e : Int) (FT : Nat → Nat → AV) : LR := ⟨1, .ss 3 2 0 (hlF (hM f m)).length (some (hlF (hM f m)).length), [(gnm 0, .arr tab.length (tab.map kindOfV) true 1 FT), (2, .arr 3 rSh false (hlF (hM f m)).length (rfF (hlF (hM f m)))), (1, .arr 10 [.int .u64, .int .u64, .int .u64, .int .u64, .int .u64, .int .u64, .int .u64, .int .u64, .int .u64, .int .u64] true m f)], 1, [], [FT = tabF tab, m ≤ 300, ∀ i, i < m → ∀ j, 0 ≤ avInt (f (0 + i) j) ∧ avInt (f (0 + i) j) < 18446744073709551616]⟩
noncomputable def mahH (a : Int) (b : Int) (c : Bool) (x : Int) (y : Int) (z : Int) (m : Nat) (f : Nat → Nat → AV) (e : Int) (FT : Nat → Nat → AV) : List (Nat × AO) := [(gnm 0, .arr tab.length (tab.map kindOfV) true 1 FT), (1, .arr 10 [.int .u64, .int .u64, .int .u64, .int .u64, .int .u64, .int .u64, .int .u64, .int .u64, .int .u64, .int .u64] true m f)]
noncomputable def mahR (a : Int) (b : Int) (c : Bool) (x : Int) (y : Int) (z : Int) (m : Nat) (f : Nat → Nat → AV) (e : Int) (FT : Nat → Nat → AV) : LR := ⟨1, .symb (mget (hM f m) [a, b, 0] == 0), [(gnm 0, .arr tab.length (tab.map kindOfV) true 1 FT), (1, .arr 10 [.int .u64, .int .u64, .int .u64, .int .u64, .int .u64, .int .u64, .int .u64, .int .u64, .int .u64, .int .u64] true m f)], 0, [], [FT = tabF tab, m ≤ 300, ∀ i, i < m → ∀ j, 0 ≤ avInt (f (0 + i) j) ∧ avInt (f (0 + i) j) < 18446744073709551616]⟩
end Go.Proofs.YtljeiencnpnbkaaDoor
