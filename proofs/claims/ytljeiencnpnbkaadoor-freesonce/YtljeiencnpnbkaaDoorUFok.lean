/-
  UFok and what follows it.
-/
import Derived.Test.YtljeiencnpnbkaaDoorUFoj
/-
  FreesOnce: apart over the family.
-/
set_option linter.unusedSimpArgs false
set_option linter.unusedVariables false
namespace Go.Proofs.YtljeiencnpnbkaaDoor
open Go.Ev
/-- What is seen ahead of thread a. -/
def seenT (T : Nat → FW) : Nat → Nat → Bool
  | 0 => fun _ => false
  | a + 1 => seenB (T a).E (T a).of (seenT T a) (T a).len
theorem fa_ex {m : Nat} {f : Nat → Nat → AV} {n : Nat} {S : MS} {T : Nat → FW} (hn : n ≤ 60)
    (h : ∀ a, a < 6 → (T a).t ≤ 2 ∧ (T a).len ≤ 1000 ∧ ∀ k, k < (T a).len → 0 ≤ (T a).E ((T a).of + k) ∧ (T a).E ((T a).of + k) < n ∧ seenB (T a).E (T a).of (seenT T a) k ((T a).E ((T a).of + k)).toNat = false) :
    FEx Tryd.prog foF (foU m f n) faC (fa0 m f n S T) .ret (fa3 m f S T true) := by
  rw [fa_body]
  refine fja_ex m f n S T (fun _ => false) hn (fex_seq (fex_seq (fjb_ex m f n S T (fun _ => false)) (fex_block ?_)) (fjd_ex m f n S T (fun _ => false)))
  refine fex_loop (e := .exit 0) (fun a : Nat => fagS m f n S T a (seenT T a)) (fun a => 6 - a) (fun a => a ≤ 6) (fun a ha => ?_) 0 (by decide)
  by_cases c : a < 6
  · left
    refine ⟨a + 1, c, by show 6 - (a + 1) < 6 - a; omega, ?_⟩
    obtain ⟨h1, h2, h3⟩ := h a c
    show FEx _ _ _ _ (fagS m f n S T a (seenT T a)) .norm (fagS m f n S T (a + 1) (seenB (T a).E (T a).of (seenT T a) (T a).len))
    obtain ⟨t, of, len, E, p, u, hTa⟩ : ∃ t of len E p u, T a = ⟨t, of, len, E, p, u⟩ := ⟨_, _, _, _, _, _, rfl⟩
    rw [hTa] at h1 h2 h3 ⊢
    match t, h1, hTa with
    | 0, _, hTa => exact faga_ex m f n S T a _ of len E p u c hTa hn h2 h3
    | 1, _, hTa => exact fagb_ex m f n S T a _ of len E p u c hTa hn h2 h3
    | 2, _, hTa => exact fagc_ex m f n S T a _ of len E p u c hTa hn h2 h3
    | t + 3, h1, _ => have h1 : t + 3 ≤ 2 := h1; omega
  · right
    have ha : a ≤ 6 := ha
    obtain rfl : a = 6 := by omega
    exact ⟨by simp, fjc_ex m f n S T (seenT T 6)⟩
end Go.Proofs.YtljeiencnpnbkaaDoor

/-
  FreesOnce: the call of apart.
-/
set_option linter.unusedSimpArgs false
set_option linter.unusedVariables false
namespace Go.Proofs.YtljeiencnpnbkaaDoor
open Go.Ev
noncomputable abbrev foL : Code := loopAt Tryd.prog 8 0
noncomputable def foReg : Code := fstC (sndC (inBlock (fstC (sndC foL))))
def opsOf : Code → List Oper
  | .region _ o _ => o.toList
  | _ => []
def o0 : Oper := ⟨none, .move (.tmp 0), 0, "", #[], none⟩
noncomputable def foA : List Oper := (opsOf foReg).take 2
noncomputable def foO : Oper := (opsOf foReg).getD 2 o0
noncomputable def foB : List Oper := (opsOf foReg).drop 3
theorem foReg_eq : foReg = .region 10 (foA ++ foO :: foB).toArray false := by kernel_rfl
section
variable (m : Nat) (f : Nat → Nat → AV) (n : Nat) (S : MS) (T : Nat → FW) (i : Nat)
noncomputable def flS : FSt := ⟨[.top, .ss 1 1 0 m none, .top, .top, .top, .sym .i64 (Int.ofNat n), .ptr 3 0 0, .top, .ss 3 5 0 6 (some 6), .sym .i64 (Int.ofNat i)] ++ List.replicate 160 .top, [(gnm 0, tabAO tab), (3, .cells 9 (.map 2 :: lsL S.st S.L)), (2, .map 110 S.M), (1, .arr 1 [.int .u8] true m f)], 6, fun k => foMb (T k), [5, 3, 2]⟩
noncomputable def flS2 : FSt := ⟨[.top, .ss 1 1 0 m none, .top, .top, .top, .sym .i64 (Int.ofNat n), .ptr 3 0 0, .top, .ss 3 5 0 6 (some 6), .sym .i64 (Int.ofNat i), .top, .top, .top, .top, .top, .top, .top, .top, .top, .top, .top, .top, .top, .top, .top, .top, .top, .top, .top, .top, .top, .top, .top, .top, .top, .top, .top, .top, .top, .top, .top, .top, .top, .top, .top, .top, .top, .top, .top, .top, .top, .top, .top, .top, .top, .top, .top, .top, .top, .ss 3 5 0 6 (some 6), .sym .i64 (Int.ofNat n), .bool true, .bool false] ++ List.replicate 107 .top, [(gnm 0, tabAO tab), (3, .cells 9 (.map 2 :: lsL S.st S.L)), (2, .map 110 S.M), (1, .arr 1 [.int .u8] true m f)], 6, fun k => foMb (T k), [6, 5, 3, 2]⟩
noncomputable def flT1 : List AV := (pureOps foA (flS m f n S T i).tmps).getD []
end
theorem fl_call {m : Nat} {f : Nat → Nat → AV} {n : Nat} {S : MS} {T : Nat → FW} {i : Nat} (hn : n ≤ 60)
    (h : ∀ a, a < 6 → (T a).t ≤ 2 ∧ (T a).len ≤ 1000 ∧ ∀ k, k < (T a).len → 0 ≤ (T a).E ((T a).of + k) ∧ (T a).E ((T a).of + k) < n ∧ seenB (T a).E (T a).of (seenT T a) k ((T a).E ((T a).of + k)).toNat = false) :
    FEx Tryd.prog foF (foU m f n) foReg (flS m f n S T i) .norm (flS2 m f n S T i) := by
  rw [foReg_eq]
  exact fex_call (x := flS m f n S T i) (yb := fa3 m f S T true) EFo_ok (A := foA) (B := foB) (o := foO) (e := .ret) (f := 45) (fn := Tryd.f45) (c := faC) (args := [.ss 3 5 0 6 (some 6), .sym .i64 (Int.ofNat n)]) (t1 := flT1 m f n S T i) (l := [.bool true])
    (by kernel_rfl) (by kernel_rfl) (by kernel_rfl) (by kernel_rfl) (by kernel_rfl) (.inr rfl) (fa_ex hn h) (by kernel_rfl) (by kernel_rfl)
end Go.Proofs.YtljeiencnpnbkaaDoor
