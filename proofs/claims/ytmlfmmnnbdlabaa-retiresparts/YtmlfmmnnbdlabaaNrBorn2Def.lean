/-
  The program's Born: definitions.
-/
import Derived.Test.YtmlfmmnnbdlabaaNrAdd
set_option linter.unusedSimpArgs false
set_option linter.unusedVariables false
namespace Go.Proofs.Ytmlfmmnnbdlabaa
open Go.Ev
theorem cnt_t {p : Nat → Bool} {i : Nat} (hc : cntB p i ≤ i) (h : p i = true) (hi : i ≤ 1000000) : IntKind.i64.wrap (Int.ofNat (cntB p i) + 1) = Int.ofNat (cntB p (i + 1)) := by
  have e : cntB p (i + 1) = cntB p i + 1 := by simp [cntB, h]
  rw [e]; exact wrap_nat64 _ (by simp; omega) (by simp; omega)
theorem cnt_f {p : Nat → Bool} {i : Nat} (h : p i = false) : Int.ofNat (cntB p i) = Int.ofNat (cntB p (i + 1)) := by
  have e : cntB p (i + 1) = cntB p i := by simp [cntB, h]
  rw [e]
theorem cnt_e {p : Nat → Bool} {i n : Nat} (h : decide (Int.ofNat i < Int.ofNat n) = false) (hi : i ≤ n) : Int.ofNat (cntB p i) = Int.ofNat (cntB p n) := by
  have : ¬ i < n := by simpa using h
  have e : i = n := by omega
  rw [e]

section
variable (n l : Nat) (f : Nat → Nat → AV) (M : List Int → Option Int) (b : Int)
noncomputable def bpH : List (Nat × AO) := lstH n l f M ++ [(5, .arr 6 eSh false n f)]
noncomputable def bpT (i : Nat) : St := ⟨[.top, .sym .u64 b, .top, .top, .top, .sym .i64 (Int.ofNat (cntB (bornP 0 f b) i)), .top, .top, .top, .ss 6 5 0 n (some n), .sym .i64 (Int.ofNat n), .sym .i64 (Int.ofNat i)] ++ List.replicate 11 .top, ⟨bpH n l f M, 6, gnm 0, [], [], [], false⟩⟩
noncomputable def bpU : St := ⟨[.top, .sym .u64 b, .top, .top, .top, .int .i64 0, .top, .top, .top, .ss 6 5 0 n (some n), .sym .i64 (Int.ofNat n), .int .i64 0] ++ List.replicate 11 .top, ⟨(5, .arr 6 eSh false n (fun i j => f (0 + i) j)) :: (4, .arr 6 eSh false 0 (fun _ _ => .top)) :: lstH n l f M, 6, gnm 0, [], [], [], false⟩⟩
noncomputable def bpS : St := ⟨[.top, .top, .top, .top, .top, .sym .i64 (Int.ofNat (cntB (bornP 0 f b) n))] ++ List.replicate 17 .top, ⟨bpH n l f M, 6, gnm 0, [], [], [], false⟩⟩
noncomputable abbrev lcBp := loopAt Try.prog 18 0
noncomputable def bpLp : Prop := LoopHolds Try.prog lcBp (bpU n l f M b) (.exit 0) (bpS n l f M b)
def bpHO : List Prop := [(0 : Nat) = 0, n = n, (none : Option Nat) = none, false = false, l ≤ l, (f = f ∧ plainSh eSh = true) ∨ ∀ i, i < l → rowOb eSh 0 (f i) (f i), ∀ k, M k = M k, false = false, n ≤ n, (f = f ∧ plainSh eSh = true) ∨ ∀ i, i < n → rowOb eSh 0 (f i) (f i)]
theorem bpHO_ok : ∀ p ∈ bpHO n l f M, p := ob_cons rfl (ob_cons rfl (ob_cons rfl (ob_cons rfl (ob_cons (Nat.le_refl _) (ob_cons (.inl ⟨rfl, rfl⟩) (ob_cons (fun _ => rfl) (ob_cons rfl (ob_cons (Nat.le_refl _) (ob_cons (.inl ⟨rfl, rfl⟩) ob_nil)))))))))
def bpHO' : List Prop := [(0 : Nat) = 0, n = n, (none : Option Nat) = none, false = false, l ≤ l, (f = f ∧ plainSh eSh = true) ∨ ∀ i, i < l → rowOb eSh 0 (f i) (f i), ∀ k, M k = M k, false = false, n ≤ n, (f = (fun i j => f (0 + i) j) ∧ plainSh eSh = true) ∨ ∀ i, i < n → rowOb eSh 0 (fun j => f (0 + i) j) (f i)]
theorem bpHO'_ok : ∀ p ∈ bpHO' n l f M, p := ob_cons rfl (ob_cons rfl (ob_cons rfl (ob_cons rfl (ob_cons (Nat.le_refl _) (ob_cons (.inl ⟨rfl, rfl⟩) (ob_cons (fun _ => rfl) (ob_cons rfl (ob_cons (Nat.le_refl _) (ob_cons (.inl ⟨by funext i j; rw [Nat.zero_add], rfl⟩) ob_nil)))))))))
noncomputable def bpR : LR := ⟨3, .sym .i64 (Int.ofNat (cntB (bornP 0 f b) n)), lstH n l f M, 0, [], [n ≤ l, 0 < n, n ≤ 1000000]⟩
end
end Go.Proofs.Ytmlfmmnnbdlabaa
