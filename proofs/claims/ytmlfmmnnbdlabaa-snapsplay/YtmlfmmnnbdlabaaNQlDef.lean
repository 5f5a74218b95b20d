/-
  SnapsPlay: the loop: definitions.
-/
import Derived.Test.YtmlfmmnnbdlabaaNRx
import Derived.Test.YtmlfmmnnbdlabaaNPm
set_option linter.unusedSimpArgs false
set_option linter.unusedVariables false
namespace Go.Proofs.Ytmlfmmnnbdlabaa
open Go.Ev
structure PS where
  S : MS
  R : RS
  ta : Int
  fl : Int
  F : Nat → Nat → AV
inductive PI where
  | b
  | w (k : Nat)
  | o
  | z
/-- How many rows the document's Taker has. -/
def rdN (fl ta : Int) : Nat := if fl = 0 then ta.toNat else ta.toNat + 1
/-- What others store ahead of a step. -/
def psM (m : Nat) (f : Nat → Nat → AV) (k : Nat) (S : MS) : MS := if k < m then mStore S (avInt (f (0 + k) 0)) (avInt (f (0 + k) 1)) (avInt (f (0 + k) 2)) (avInt (f (0 + k) 3)) else S
def psR (m : Nat) (f : Nat → Nat → AV) (k : Nat) (R : RS) : RS := if k < m then rStore R (avInt (f (0 + k) 0)) (avInt (f (0 + k) 1)) (avInt (f (0 + k) 2)) (avInt (f (0 + k) 3)) else R
noncomputable def psZ (S : MS) (R : RS) : PS := ⟨mLoad S 5 0 0, rLoad R 5 0 0, 0, 0, tF0⟩
noncomputable def psS (S : MS) (R : RS) (y : PS) : PS := ⟨mLoad S 8 y.ta y.fl, rLoad R 8 y.ta y.fl, tkAt S.M y.F y.ta y.fl, tkFl S.M y.F y.ta y.fl, tkF y.F y.ta y.fl (mget S.M (key 8 y.ta y.fl))⟩
noncomputable def psN (m : Nat) (f : Nat → Nat → AV) (S : MS) (R : RS) : Nat → PS
  | 0 => psZ (psM m f 0 S) (psR m f 0 R)
  | k + 1 => psS (psM m f (k + 1) (psN m f S R k).S) (psR m f (k + 1) (psN m f S R k).R) (psN m f S R k)
noncomputable def ESp : Env := envG Try.prog ((33, tkSP) :: (40, rtSP) :: (38, locSP pstSpec) :: (41, locSP smeSpec) :: memSP)
theorem ESp_ok : EnvOk ESp := envG_ok mgood ⟨tkSP_ok, rtSP_ok, locSP_ok pstSpec_ok, locSP_ok smeSpec_ok, memSP_ok⟩
noncomputable def ppU (n : Nat) (g : Nat → Nat → AV) (m : Nat) (f : Nat → Nat → AV) (al : Nat) (b : Int) (S : MS) (R : RS) : St := ⟨[.top, .ss 4 2 0 m none, .top, .top, .top, .ptr 7 0 0, .ptr 8 0 0, .ptr 9 0 0, .int .i64 0, .int .i64 0] ++ List.replicate 137 .top, ⟨[(9, .cells 5 [.int .i64 1, .nils, .int .u64 0, .int .i64 0, .int .i64 0]), (8, .cells 6 [.func (.func 76) [.ptr 8 0 0] [], .nils, .int .u64 0, .int .i64 0, .int .i64 0, .int .i64 0]), (7, .cells 2 [.ptr 3 0 0, .ptr 5 0 0]), (1, .arr 4 wSh true n (wdF (bgW g))), (2, .arr 4 wSh true m f), (3, .cells 9 (.map 4 :: lsL S.st S.L)), (4, .map 128 S.M), (5, .cells 9 (.ss 4 6 0 R.D.n none :: lsL R.st R.L)), (6, .arr 4 wSh false R.D.n (wdF R.D.W))], 10, gnm 0, [], [], [8, 7], false⟩⟩
noncomputable def ppW (n : Nat) (g : Nat → Nat → AV) (m : Nat) (f : Nat → Nat → AV) (al : Nat) (b : Int) (k : Nat) (y : PS) : St := ⟨[.top, .ss 4 2 0 m none, .top, .top, .top, .ptr 7 0 0, .ptr 8 0 0, .ptr 9 0 0, .sym .i64 (Int.ofNat (k + 1)), .sym .i64 (Int.ofNat (k + 1))] ++ List.replicate 137 .top, ⟨[(9, .cells 5 [.int .i64 2, .ss 10 11 0 (rdN y.fl y.ta) none, .int .u64 0, .sym .i64 b, .sym .i64 y.fl]), (11, .arr 10 tSh false (rdN y.fl y.ta) y.F), (8, .cells 6 [.func (.func 106) [.ptr 8 0 0] [], .ss 10 10 0 al (some al), .sym .u64 0, .sym .i64 y.ta, .sym .i64 y.fl, .sym .i64 (Int.ofNat al)]), (10, .arr 10 tSh false al y.F), (7, .cells 2 [.ptr 3 0 0, .ptr 5 0 0]), (1, .arr 4 wSh true n (wdF (bgW g))), (2, .arr 4 wSh true m f), (3, .cells 9 (.map 4 :: lsL y.S.st y.S.L)), (4, .map 128 y.S.M), (5, .cells 9 (.ss 4 12 0 y.R.D.n none :: lsL y.R.st y.R.L)), (12, .arr 4 wSh false y.R.D.n (wdF y.R.D.W))], 13, gnm 0, [], [], [6, 5, 4, 3, 9, 10, 11, 8, 7], false⟩⟩
noncomputable def ppO (n : Nat) (g : Nat → Nat → AV) (m : Nat) (f : Nat → Nat → AV) (al : Nat) (b : Int) (k : Nat) (y : PS) : St := ⟨[.top, .ss 4 2 0 m none, .top, .top, .top, .ptr 7 0 0, .ptr 8 0 0, .ptr 9 0 0, .sym .i64 (Int.ofNat (k + 1)), .sym .i64 (Int.ofNat (k + 1))] ++ List.replicate 137 .top, ⟨[(9, .cells 5 [.int .i64 0, .ss 10 11 0 (rdN y.fl y.ta) none, .int .u64 0, .sym .i64 b, .sym .i64 y.fl]), (11, .arr 10 tSh false (rdN y.fl y.ta) y.F), (8, .cells 6 [.nilf, .ss 10 10 0 al (some al), .sym .u64 0, .sym .i64 y.ta, .sym .i64 y.fl, .sym .i64 (Int.ofNat al)]), (10, .arr 10 tSh false al y.F), (7, .cells 2 [.ptr 3 0 0, .ptr 5 0 0]), (1, .arr 4 wSh true n (wdF (bgW g))), (2, .arr 4 wSh true m f), (3, .cells 9 (.map 4 :: lsL y.S.st y.S.L)), (4, .map 128 y.S.M), (5, .cells 9 (.ss 4 12 0 y.R.D.n none :: lsL y.R.st y.R.L)), (12, .arr 4 wSh false y.R.D.n (wdF y.R.D.W))], 13, gnm 0, [], [], [6, 5, 4, 3, 9, 10, 11, 8, 7], false⟩⟩
noncomputable def ppZ (n : Nat) (g : Nat → Nat → AV) (m : Nat) (f : Nat → Nat → AV) (al : Nat) (b : Int) (y : PS) : St := ⟨[.top, .ss 4 2 0 m none, .top, .top, .top, .ptr 7 0 0, .ptr 8 0 0, .ptr 9 0 0, .sym .i64 1, .sym .i64 1] ++ List.replicate 137 .top, ⟨[(9, .cells 5 [.int .i64 0, .nils, .int .u64 0, .sym .i64 b, .int .i64 0]), (8, .cells 6 [.nilf, .xs 10 10 0 0 (some 0), .sym .u64 0, .sym .i64 0, .sym .i64 0, .sym .i64 0]), (10, .arr 10 tSh false 0 tF0), (7, .cells 2 [.ptr 3 0 0, .ptr 5 0 0]), (1, .arr 4 wSh true n (wdF (bgW g))), (2, .arr 4 wSh true m f), (3, .cells 9 (.map 4 :: lsL y.S.st y.S.L)), (4, .map 128 y.S.M), (5, .cells 9 (.ss 4 12 0 y.R.D.n none :: lsL y.R.st y.R.L)), (12, .arr 4 wSh false y.R.D.n (wdF y.R.D.W))], 13, gnm 0, [], [], [6, 5, 4, 3, 9, 10, 11, 8, 7], false⟩⟩
noncomputable def ppX (n : Nat) (g : Nat → Nat → AV) (m : Nat) (f : Nat → Nat → AV) (al : Nat) (b : Int) (k : Nat) (y : PS) : St := ⟨[.top, .top, .top, .top, .top, .ptr 7 0 0, .ptr 8 0 0, .ptr 9 0 0, .sym .i64 (Int.ofNat (k + 1))] ++ List.replicate 138 .top, ⟨[(9, .cells 5 [.int .i64 0, .ss 10 11 0 (rdN y.fl y.ta) none, .int .u64 0, .sym .i64 b, .sym .i64 y.fl]), (11, .arr 10 tSh false (rdN y.fl y.ta) y.F), (8, .cells 6 [.nilf, .ss 10 10 0 al (some al), .sym .u64 0, .sym .i64 y.ta, .sym .i64 y.fl, .sym .i64 (Int.ofNat al)]), (10, .arr 10 tSh false al y.F), (7, .cells 2 [.ptr 3 0 0, .ptr 5 0 0]), (1, .arr 4 wSh true n (wdF (bgW g))), (2, .arr 4 wSh true m f), (3, .cells 9 (.map 4 :: lsL y.S.st y.S.L)), (4, .map 128 y.S.M), (5, .cells 9 (.ss 4 12 0 y.R.D.n none :: lsL y.R.st y.R.L)), (12, .arr 4 wSh false y.R.D.n (wdF y.R.D.W))], 13, gnm 0, [], [], [6, 5, 4, 3, 9, 10, 11, 8, 7], false⟩⟩
noncomputable def ppY (n : Nat) (g : Nat → Nat → AV) (m : Nat) (f : Nat → Nat → AV) (al : Nat) (b : Int) (y : PS) : St := ⟨[.top, .top, .top, .top, .top, .ptr 7 0 0, .ptr 8 0 0, .ptr 9 0 0, .sym .i64 1] ++ List.replicate 138 .top, ⟨[(9, .cells 5 [.int .i64 0, .nils, .int .u64 0, .sym .i64 b, .int .i64 0]), (8, .cells 6 [.nilf, .xs 10 10 0 0 (some 0), .sym .u64 0, .sym .i64 0, .sym .i64 0, .sym .i64 0]), (10, .arr 10 tSh false 0 tF0), (7, .cells 2 [.ptr 3 0 0, .ptr 5 0 0]), (1, .arr 4 wSh true n (wdF (bgW g))), (2, .arr 4 wSh true m f), (3, .cells 9 (.map 4 :: lsL y.S.st y.S.L)), (4, .map 128 y.S.M), (5, .cells 9 (.ss 4 12 0 y.R.D.n none :: lsL y.R.st y.R.L)), (12, .arr 4 wSh false y.R.D.n (wdF y.R.D.W))], 13, gnm 0, [], [], [6, 5, 4, 3, 9, 10, 11, 8, 7], false⟩⟩
noncomputable def ppT (n : Nat) (g : Nat → Nat → AV) (m : Nat) (f : Nat → Nat → AV) (al : Nat) (b : Int) (K : Nat) (S : MS) (R : RS) : PI → St
  | .b => ppU n g m f al b S R
  | .w k => ppW n g m f al b k (psN m f S R k)
  | .o => ppO n g m f al b K (psN m f S R K)
  | .z => ppZ n g m f al b (psN m f S R 0)
def ppMu (K : Nat) : PI → Nat
  | .b => K + 2
  | .w k => K + 1 - k
  | .o => 0
  | .z => 0
def ppI (K : Nat) : PI → Prop
  | .b => True
  | .w k => k < K
  | .o => 0 < K
  | .z => K = 0
noncomputable abbrev ppL : Code := loopAt Try.prog 7 0
noncomputable def ppLP (n : Nat) (g : Nat → Nat → AV) (m : Nat) (f : Nat → Nat → AV) (al : Nat) (b : Int) (S : MS) (R : RS) (K : Nat) (y : PS) : Prop := LoopHolds Try.prog ppL (ppU n g m f al b S R) (.exit 0) (ppX n g m f al b K y)
noncomputable def ppLZ (n : Nat) (g : Nat → Nat → AV) (m : Nat) (f : Nat → Nat → AV) (al : Nat) (b : Int) (S : MS) (R : RS) (y : PS) : Prop := LoopHolds Try.prog ppL (ppU n g m f al b S R) (.exit 0) (ppY n g m f al b y)
end Go.Proofs.Ytmlfmmnnbdlabaa
