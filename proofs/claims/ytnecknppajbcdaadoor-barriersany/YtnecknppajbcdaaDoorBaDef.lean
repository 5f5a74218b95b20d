/-
  The laws of the barriers: definitions.
-/
import Derived.Test.YtnecknppajbcdaaDoorEvDoor
import Derived.Test.YtnecknppajbcdaaDoorRows
set_option linter.unusedSimpArgs false
set_option linter.unusedVariables false
namespace Go.Proofs.YtnecknppajbcdaaDoor
open Go.Ev

theorem hgood : Ev.Good Tryd.prog where
  mixed := by kernel_rfl
  names := fun f fn h1 h2 => by
    have key : Tryd.prog.funcs.toList.all (fun fn => !fn.body.isSome || !(fn.name == "runtime.NumGoroutine")) = true := by kernel_rfl
    have hm : fn ∈ Tryd.prog.funcs.toList := by
      have := (Array.getElem?_eq_some_iff.1 h1)
      obtain ⟨hlt, rfl⟩ := this
      simp
    have := List.all_eq_true.1 key fn hm
    simpa [h2] using this
noncomputable def EH0 : Env := envOf Tryd.prog []
theorem EH0_ok : EnvOk EH0 := envOf_ok hgood trivial
def tab : List Value := [.int .i64 0, .int .i64 1, .int .i64 2, .int .i64 6]
/-- Is a number reached? -/
def reachB (a b : Int) : Bool := decide ((b - a) % 281474976710656 < 140737488355328)
noncomputable def reachR (a b : Int) : LR := ⟨0, .symb (reachB a b), [], 0, [], [0 ≤ a, a < 18446744073709551616, 0 ≤ b, b < 18446744073709551616]⟩
theorem u64m (x : Int) : IntKind.u64.wrap x = x % 18446744073709551616 := by
  simp [IntKind.wrap, IntKind.signed, IntKind.bits]
theorem u64r (x : Int) : 0 ≤ IntKind.u64.wrap x ∧ IntKind.u64.wrap x < 18446744073709551616 := by rw [u64m]; omega
theorem and48 {x : Int} (h : 0 ≤ x) (h1 : x < 18446744073709551616) : IntKind.u64.wrap ↑(BitVec.ofInt 64 x &&& BitVec.ofInt 64 281474976710655).toNat = x % 281474976710656 := by
  have e : (BitVec.ofInt 64 x &&& BitVec.ofInt 64 281474976710655).toNat = x.toNat % 2 ^ 48 := by
    rw [BitVec.toNat_and, BitVec.toNat_ofInt, BitVec.toNat_ofInt, ← Nat.and_two_pow_sub_one_eq_mod]
    have : (x % ((2 ^ 64 : Nat) : Int)).toNat = x.toNat := by
      have : x % ((2 ^ 64 : Nat) : Int) = x := Int.emod_eq_of_lt h (by simpa using h1)
      rw [this]
    rw [this]
    rfl
  rw [e, u64m]
  omega
theorem reach_p (a b : Int) : decide ((IntKind.u64.wrap (b - a)).tmod 281474976710656 < 140737488355328) = reachB a b := by
  unfold reachB
  rw [u64m, Int.tmod_eq_emod_of_nonneg (by omega)]
  have : (b - a) % 18446744073709551616 % 281474976710656 = (b - a) % 281474976710656 := by omega
  rw [this]
theorem reach_t {a b : Int} (ha : 0 ≤ a) (ha1 : a < 18446744073709551616) (hb : 0 ≤ b) (hb1 : b < 18446744073709551616)
    (h : decide (IntKind.u64.wrap ↑(BitVec.ofInt 64 b &&& BitVec.ofInt 64 281474976710655).toNat < IntKind.u64.wrap ↑(BitVec.ofInt 64 a &&& BitVec.ofInt 64 281474976710655).toNat) = true) :
    decide (IntKind.u64.wrap (IntKind.u64.wrap (IntKind.u64.wrap ↑(BitVec.ofInt 64 b &&& BitVec.ofInt 64 281474976710655).toNat + 281474976710656) - IntKind.u64.wrap ↑(BitVec.ofInt 64 a &&& BitVec.ofInt 64 281474976710655).toNat) < 140737488355328) = reachB a b := by
  rw [and48 ha ha1, and48 hb hb1] at *
  have h := of_decide_eq_true h
  unfold reachB
  rw [u64m, u64m, Bool.eq_iff_iff]
  simp only [decide_eq_true_eq]
  omega
theorem reach_f {a b : Int} (ha : 0 ≤ a) (ha1 : a < 18446744073709551616) (hb : 0 ≤ b) (hb1 : b < 18446744073709551616)
    (h : decide (IntKind.u64.wrap ↑(BitVec.ofInt 64 b &&& BitVec.ofInt 64 281474976710655).toNat < IntKind.u64.wrap ↑(BitVec.ofInt 64 a &&& BitVec.ofInt 64 281474976710655).toNat) = false) :
    decide (IntKind.u64.wrap (IntKind.u64.wrap ↑(BitVec.ofInt 64 b &&& BitVec.ofInt 64 281474976710655).toNat - IntKind.u64.wrap ↑(BitVec.ofInt 64 a &&& BitVec.ofInt 64 281474976710655).toNat) < 140737488355328) = reachB a b := by
  rw [and48 ha ha1, and48 hb hb1] at *
  have h := of_decide_eq_false h
  unfold reachB
  rw [u64m, Bool.eq_iff_iff]
  simp only [decide_eq_true_eq]
  omega
theorem eq_no {b : Bool} : ((b == b) == false) = false := by cases b <;> rfl
theorem blives_run : (callF EH0 3000 17 [] ⟨[(gnm 0, tabAO tab)], 0, gnm 0, [], [], [], true⟩).map (fun x => (x.1, x.2.ob)) = some (.bool true, []) := by kernel_rfl
noncomputable def blivesSpec : LSpec := fun la lh => match la, lh with
  | [], [(z, .arr n sh ro len F)] => match Nat.beq z (gnm 0) && (Nat.beq n 4 && (shBeq sh (tab.map kindOfV) && (ro && Nat.beq len 1))) with
    | true => some (tabR 0 tab F)
    | false => none
  | _, _ => none
theorem blivesSpec_ok (la : List AV) (lh : List (Nat × AO)) (R : LR) (h : blivesSpec la lh = some R) : LocOk Tryd.prog 17 la lh R := by
  unfold blivesSpec at h
  split at h
  · rename_i z n sh ro len F
    split at h
    · rename_i hb
      simp only [Bool.and_eq_true] at hb
      obtain ⟨e1, e2, e3, e4, e5⟩ := hb
      have e1 := Nat.eq_of_beq_eq_true e1; subst e1
      have e2 := Nat.eq_of_beq_eq_true e2; subst e2
      have e3 := shBeq_eq e3; subst e3
      subst e4
      have e5 := Nat.eq_of_beq_eq_true e5; subst e5
      cases h
      exact lives_of_tab EH0_ok (vs := tab) rfl (.inl rfl) blives_run F
    · cases h
  · cases h
def Runs (run : List Hint → Option (AV × List Prop × Bool)) : Prop := ∃ h v ob, run h = some (v, ob, true) ∧ isTrue v ∧ ∀ p ∈ ob, p
end Go.Proofs.YtnecknppajbcdaaDoor
