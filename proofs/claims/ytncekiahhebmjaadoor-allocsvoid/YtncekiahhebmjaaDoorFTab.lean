/-
  The table of the words' fields; the chapter's examples.
-/
import Derived.Test.YtncekiahhebmjaaDoorEvLaw
import Derived.Test.YtncekiahhebmjaaDoorFBeg
set_option linter.unusedSimpArgs false
set_option linter.unusedVariables false
namespace Go.Proofs.YtncekiahhebmjaaDoor
open Go.Ev
def tab : List Value := [.int .u64 0, .int .u64 16, .int .u64 16, .int .u64 32, .int .u64 16, .int .u64 48, .int .u64 0, .int .u64 3, .int .u64 3, .int .u64 32, .int .u64 0, .int .u64 3, .int .u64 3, .int .u64 3, .int .u64 6, .int .u64 3, .int .u64 16, .int .u64 48, .int .u64 0, .int .u64 32, .int .u64 32, .int .u64 1]
theorem fl_run : (callF EM0 8000 10 [] ⟨[(gnm 0, tabAO tab)], 0, gnm 0, [], [], [], true⟩).map (fun x => (x.1, x.2.ob)) = some (.bool true, []) := by kernel_rfl
noncomputable def flSpec : LSpec := fun la lh => match la, lh with
  | [], [(z, .arr n sh ro len F)] => match Nat.beq z (gnm 0) && (Nat.beq n tab.length && (shBeq sh (tab.map kindOfV) && (ro && Nat.beq len 1))) with
    | true => some (tabR 0 tab F)
    | false => none
  | _, _ => none
theorem flSpec_ok (la : List AV) (lh : List (Nat × AO)) (R : LR) (h : flSpec la lh = some R) : LocOk Tryd.prog 10 la lh R := by
  unfold flSpec at h
  split at h
  · rename_i z n sh ro len F
    split at h
    · rename_i hb
      simp only [Bool.and_eq_true] at hb
      obtain ⟨e1, e2, e3, e4, e5⟩ := hb
      have e1 := Nat.eq_of_beq_eq_true e1; subst e1
      have e2 := Nat.eq_of_beq_eq_true e2; subst e2
      have e3 := shBeq_eq e3; subst e3
      subst e4
      have e5 := Nat.eq_of_beq_eq_true e5; subst e5
      cases h
      exact lives_of_tab EM0_ok (vs := tab) rfl (.inl rfl) fl_run F
    · cases h
  · cases h
end Go.Proofs.YtncekiahhebmjaaDoor
