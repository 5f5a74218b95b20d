/-
  Eras: May: definitions.
-/
import Derived.Test.YtmhjecenmgbpeaaEvLaw
import Derived.Test.YtmhjecenmgbpeaaMBeg
set_option linter.unusedSimpArgs false
set_option linter.unusedVariables false
namespace Go.Proofs.Ytmhjecenmgbpeaa
open Go.Ev

def tSh : List CK := [.int .u64, .int .u64, .int .u64, .int .u64, .int .u64, .int .u64, .int .u64, .int .u64, .int .u64, .int .u64]
theorem l17_run : (callF EM0 8000 33 [] ⟨[], 0, gnm 0, [], [], [], true⟩).map (fun x => (x.1, x.2.ob)) = some (.bool true, []) := by kernel_rfl
noncomputable def l17Spec : LSpec := fun la lh => match la, lh with
  | [], [] => some ⟨0, .bool true, [], 0, [], []⟩
  | _, _ => none
theorem l17Spec_ok (la : List AV) (lh : List (Nat × AO)) (R : LR) (h : l17Spec la lh = some R) : LocOk Try.prog 33 la lh R := by
  unfold l17Spec at h
  split at h
  · cases h; exact lives_of_run EM0_ok l17_run
  · cases h

def ixfP (n l : Nat) (r : Bool) (g : Nat → Nat → AV) (sl ge : Int) (mk : Bool) (b ep er : Int) (i : Nat) : Bool := and2 (!decide (avInt (g (0 + i) 4) = 0)) (and2 (!decide (avInt (g (0 + i) 5) = 0)) (and2 (decide (IntKind.u64.wrap (avInt (g (0 + i) 4) - 1) ≤ er)) (decide (b ≤ IntKind.u64.wrap (avInt (g (0 + i) 5) - 1)))))
noncomputable def ixfH (n l : Nat) (r : Bool) (g : Nat → Nat → AV) (sl ge : Int) (mk : Bool) (b ep er : Int) : List (Nat × AO) := [(1, .arr 10 tSh r l g), (2, .cells 6 [.sym .i64 sl, .sym .u32 ge, .symb mk, .sym .u64 b, .sym .u64 ep, .sym .u64 er])]
noncomputable def ixfU (n l : Nat) (r : Bool) (g : Nat → Nat → AV) (sl ge : Int) (mk : Bool) (b ep er : Int) : St := ⟨[.ss 10 1 0 n none, .func (.func 74) [] [.ptr 2 0 0], .top, .top, .top, .top, .ss 10 1 0 n none, .sym .i64 (Int.ofNat n), .int .i64 0] ++ List.replicate 10 .top, ⟨ixfH n l r g sl ge mk b ep er, 3, gnm 0, [], [], [], false⟩⟩
noncomputable def ixfT (n l : Nat) (r : Bool) (g : Nat → Nat → AV) (sl ge : Int) (mk : Bool) (b ep er : Int) (i : Nat) : St := ⟨[.ss 10 1 0 n none, .func (.func 74) [] [.ptr 2 0 0], .top, .top, .top, .top, .ss 10 1 0 n none, .sym .i64 (Int.ofNat n), .sym .i64 (Int.ofNat i)] ++ List.replicate 10 .top, ⟨ixfH n l r g sl ge mk b ep er, 3, gnm 0, [], [], [], false⟩⟩
noncomputable def ixfQ (n l : Nat) (r : Bool) (g : Nat → Nat → AV) (sl ge : Int) (mk : Bool) (b ep er : Int) (k : Nat) : St := ⟨[.top, .top, .top, .top, .sym .i64 (Int.ofNat k)] ++ List.replicate 14 .top, ⟨ixfH n l r g sl ge mk b ep er, 3, gnm 0, [], [], [], false⟩⟩
noncomputable def ixfS (n l : Nat) (r : Bool) (g : Nat → Nat → AV) (sl ge : Int) (mk : Bool) (b ep er : Int) : St := ⟨[] ++ List.replicate 19 .top, ⟨ixfH n l r g sl ge mk b ep er, 3, gnm 0, [], [], [], false⟩⟩
noncomputable def ixfR (n l : Nat) (r : Bool) (g : Nat → Nat → AV) (sl ge : Int) (mk : Bool) (b ep er : Int) : LR := ⟨2, .sym .i64 (srch (ixfP n l r g sl ge mk b ep er) n (fun i => Int.ofNat i) (-1)), ixfH n l r g sl ge mk b ep er, 0, [], [n ≤ l, n ≤ 1000000]⟩
noncomputable abbrev ixfL : Code := loopAt Try.prog 91 0
noncomputable def ixfLF (n l : Nat) (r : Bool) (g : Nat → Nat → AV) (sl ge : Int) (mk : Bool) (b ep er : Int) (k : Nat) : Prop := LoopHolds Try.prog ixfL (ixfU n l r g sl ge mk b ep er) .ret (ixfQ n l r g sl ge mk b ep er k)
noncomputable def ixfLN (n l : Nat) (r : Bool) (g : Nat → Nat → AV) (sl ge : Int) (mk : Bool) (b ep er : Int) : Prop := LoopHolds Try.prog ixfL (ixfU n l r g sl ge mk b ep er) (.exit 0) (ixfS n l r g sl ge mk b ep er)
def rmaP (n l : Nat) (r : Bool) (g : Nat → Nat → AV) (sl ge : Int) (mk : Bool) (b ep er : Int) (ew : Int) (i : Nat) : Bool := and2 (!decide (avInt (g (0 + i) 4) = 0)) (and2 (!decide (avInt (g (0 + i) 5) = 0)) (and2 (decide (IntKind.u64.wrap (avInt (g (0 + i) 4) - 1) ≤ er)) (decide (IntKind.u64.wrap (avInt (g (0 + i) 5) - 1) ≥ b))))
noncomputable def rmaH (n l : Nat) (r : Bool) (g : Nat → Nat → AV) (sl ge : Int) (mk : Bool) (b ep er : Int) (ew : Int) : List (Nat × AO) := [(1, .arr 10 tSh r l g)]
noncomputable def rmaE (n l : Nat) (r : Bool) (g : Nat → Nat → AV) (sl ge : Int) (mk : Bool) (b ep er : Int) (ew : Int) : List (Nat × AO) := [(3, .cells 2 [.ss 10 1 0 n none, .sym .u64 ew]), (2, .cells 6 [.sym .i64 sl, .sym .u32 ge, .symb mk, .sym .u64 b, .sym .u64 ep, .sym .u64 er]), (1, .arr 10 tSh r l g)]
noncomputable def rmaU (n l : Nat) (r : Bool) (g : Nat → Nat → AV) (sl ge : Int) (mk : Bool) (b ep er : Int) (ew : Int) : St := ⟨[.top, .top, .ptr 2 0 0, .ptr 3 0 0, .top, .int .i64 0] ++ List.replicate 35 .top, ⟨rmaE n l r g sl ge mk b ep er ew, 4, gnm 0, [], [], [], false⟩⟩
noncomputable def rmaT (n l : Nat) (r : Bool) (g : Nat → Nat → AV) (sl ge : Int) (mk : Bool) (b ep er : Int) (ew : Int) (i : Nat) : St := ⟨[.top, .top, .ptr 2 0 0, .ptr 3 0 0, .top, .sym .i64 (Int.ofNat i)] ++ List.replicate 35 .top, ⟨rmaE n l r g sl ge mk b ep er ew, 4, gnm 0, [], [], [], false⟩⟩
noncomputable def rmaQ (n l : Nat) (r : Bool) (g : Nat → Nat → AV) (sl ge : Int) (mk : Bool) (b ep er : Int) (ew : Int) (k : Nat) : St := ⟨[.top, .top, .top, .top, .bool false] ++ List.replicate 36 .top, ⟨rmaE n l r g sl ge mk b ep er ew, 4, gnm 0, [], [], [], false⟩⟩
noncomputable def rmaS (n l : Nat) (r : Bool) (g : Nat → Nat → AV) (sl ge : Int) (mk : Bool) (b ep er : Int) (ew : Int) : St := ⟨[] ++ List.replicate 41 .top, ⟨rmaE n l r g sl ge mk b ep er ew, 4, gnm 0, [], [], [], false⟩⟩
noncomputable def rmaR (n l : Nat) (r : Bool) (g : Nat → Nat → AV) (sl ge : Int) (mk : Bool) (b ep er : Int) (ew : Int) : LR := ⟨1, .symb (!(srchB (rmaP n l r g sl ge mk b ep er ew) n)), rmaH n l r g sl ge mk b ep er ew, 0, [], [n ≤ l, n ≤ 1000000]⟩
noncomputable abbrev rmaL : Code := loopAt Try.prog 35 0
noncomputable def rmaLF (n l : Nat) (r : Bool) (g : Nat → Nat → AV) (sl ge : Int) (mk : Bool) (b ep er : Int) (ew : Int) (k : Nat) : Prop := LoopHolds Try.prog rmaL (rmaU n l r g sl ge mk b ep er ew) .ret (rmaQ n l r g sl ge mk b ep er ew k)
noncomputable def rmaLN (n l : Nat) (r : Bool) (g : Nat → Nat → AV) (sl ge : Int) (mk : Bool) (b ep er : Int) (ew : Int) : Prop := LoopHolds Try.prog rmaL (rmaU n l r g sl ge mk b ep er ew) (.exit 0) (rmaS n l r g sl ge mk b ep er ew)
end Go.Proofs.Ytmhjecenmgbpeaa
