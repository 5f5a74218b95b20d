/-
  BarriersPlay: the loop: definitions.
-/
import Derived.Test.YtmlfmmnnbdlabaaDoorQBv
import Derived.Test.YtmlfmmnnbdlabaaDoorQPm
set_option linter.unusedSimpArgs false
set_option linter.unusedVariables false
namespace Go.Proofs.YtmlfmmnnbdlabaaDoor
open Go.Ev
structure PB where
  S : MS
  R : RS
  x : BQ
  d : BQ
inductive PJ where
  | b
  | w (k : Nat)
  | o
/-- What others store ahead of a step. -/
def pbM (m : Nat) (f : Nat → Nat → AV) (k : Nat) (S : MS) : MS := if k < m then mStore S (avInt (f (0 + k) 0)) (avInt (f (0 + k) 1)) (avInt (f (0 + k) 2)) (avInt (f (0 + k) 3)) else S
def pbR (m : Nat) (f : Nat → Nat → AV) (k : Nat) (R : RS) : RS := if k < m then rStore R (avInt (f (0 + k) 0)) (avInt (f (0 + k) 1)) (avInt (f (0 + k) 2)) (avInt (f (0 + k) 3)) else R
def pbZ (lk al : Int) (S : MS) (R : RS) : PB := ⟨mLoad S 5 0 0, rLoad R 5 0 0, ⟨if 1 > lk then 1 else lk, 0, 0, -1, 0, decide (0 < al)⟩, ⟨lk, 0, if al = 0 then 0 else 2, -1, if al = 0 then 0 else 4, decide (0 < al)⟩⟩
def pbS (nb al : Int) (S : MS) (R : RS) (y : PB) : PB := ⟨mLoad S 8 y.x.th (bpFld y.x.at_), rLoad R 8 y.d.th (bpFld (y.d.at_ - 2)), bpS nb al ⟨y.x.lk, y.x.th, y.x.at_, y.x.wt, y.x.en, true⟩ (mget S.M (key 8 y.x.th (bpFld y.x.at_))), bpD nb al ⟨y.d.lk, y.d.th, y.d.at_, y.d.wt, y.d.en, true⟩ (dWord R.D 8 y.d.th (bpFld (y.d.at_ - 2)))⟩
def pbN (m : Nat) (f : Nat → Nat → AV) (nb lk al : Int) (S : MS) (R : RS) : Nat → PB
  | 0 => pbZ lk al (pbM m f 0 S) (pbR m f 0 R)
  | k + 1 => pbS nb al (pbM m f (k + 1) (pbN m f nb lk al S R k).S) (pbR m f (k + 1) (pbN m f nb lk al S R k).R) (pbN m f nb lk al S R k)
noncomputable def EBp : Env := envG Tryd.prog ((11, bsSP) :: (10, brSP) :: (9, locSP pstSpec) :: (15, locSP smeSpec) :: memSP)
theorem EBp_ok : EnvOk EBp := envG_ok mgood ⟨bsSP_ok, brSP_ok, locSP_ok pstSpec_ok, locSP_ok smeSpec_ok, memSP_ok⟩
noncomputable def pbU (n : Nat) (g : Nat → Nat → AV) (m : Nat) (f : Nat → Nat → AV) (nb lk al : Int) (S : MS) (R : RS) : St := ⟨[.top, .ss 4 2 0 m none, .top, .top, .top, .top, .top, .ptr 8 0 0, .ptr 9 0 0, .ptr 10 0 0, .int .i64 0] ++ List.replicate 112 .top, ⟨[(10, .cells 7 [.int .i64 1, .sym .u64 nb, .sym .i64 lk, .int .i64 4, .int .i64 (-1), .int .i64 0, .int .i64 0]), (9, .cells 9 [.bool true, .bool true, .sym .u64 nb, .sym .i64 (if 1 > lk then 1 else lk), .int .i64 0, .int .i64 0, .int .i64 (-1), .int .i64 (-1), .int .i64 0]), (8, .cells 2 [.ptr 4 0 0, .ptr 6 0 0]), (3, .cells 2 [.sym .u64 nb, .sym .i64 lk]), (gnm 0, tabAO tab), (1, .arr 4 wSh true n (wdF (bgW g))), (2, .arr 4 wSh true m f), (4, .cells 9 (.map 5 :: lsL S.st S.L)), (5, .map 76 S.M), (6, .cells 9 (.ss 4 7 0 R.D.n none :: lsL R.st R.L)), (7, .arr 4 wSh false R.D.n (wdF R.D.W))], 11, gnm 0, [], [], [8], false⟩⟩
noncomputable def pbW (n : Nat) (g : Nat → Nat → AV) (m : Nat) (f : Nat → Nat → AV) (nb lk al : Int) (k : Nat) (y : PB) : St := ⟨[.top, .ss 4 2 0 m none, .top, .top, .top, .top, .top, .ptr 8 0 0, .ptr 9 0 0, .ptr 10 0 0, .sym .i64 (Int.ofNat (k + 1))] ++ List.replicate 112 .top, ⟨[(10, .cells 7 [.sym .i64 y.d.at_, .sym .u64 nb, .sym .i64 y.d.lk, .sym .i64 y.d.en, .sym .i64 y.d.wt, .sym .i64 y.d.th, .sym .i64 al]), (9, .cells 9 [.bool true, .bool true, .sym .u64 nb, .sym .i64 y.x.lk, .sym .i64 y.x.th, .sym .i64 al, .sym .i64 y.x.at_, .sym .i64 y.x.wt, .sym .i64 y.x.en]), (8, .cells 2 [.ptr 4 0 0, .ptr 6 0 0]), (gnm 0, tabAO tab), (1, .arr 4 wSh true n (wdF (bgW g))), (2, .arr 4 wSh true m f), (4, .cells 9 (.map 5 :: lsL y.S.st y.S.L)), (5, .map 76 y.S.M), (6, .cells 9 (.ss 4 11 0 y.R.D.n none :: lsL y.R.st y.R.L)), (11, .arr 4 wSh false y.R.D.n (wdF y.R.D.W))], 12, gnm 0, [], [], [7, 6, 5, 4, 9, 10, 8], false⟩⟩
noncomputable def pbO (n : Nat) (g : Nat → Nat → AV) (m : Nat) (f : Nat → Nat → AV) (nb lk al : Int) (k : Nat) (y : PB) : St := ⟨[.top, .ss 4 2 0 m none, .top, .top, .top, .top, .top, .ptr 8 0 0, .ptr 9 0 0, .ptr 10 0 0, .sym .i64 (Int.ofNat (k + 1))] ++ List.replicate 112 .top, ⟨[(10, .cells 7 [.int .i64 0, .sym .u64 nb, .sym .i64 y.d.lk, .sym .i64 y.d.en, .sym .i64 y.d.wt, .sym .i64 y.d.th, .sym .i64 al]), (9, .cells 9 [.bool true, .bool false, .sym .u64 nb, .sym .i64 y.x.lk, .sym .i64 y.x.th, .sym .i64 al, .sym .i64 y.x.at_, .sym .i64 y.x.wt, .sym .i64 y.x.en]), (8, .cells 2 [.ptr 4 0 0, .ptr 6 0 0]), (gnm 0, tabAO tab), (1, .arr 4 wSh true n (wdF (bgW g))), (2, .arr 4 wSh true m f), (4, .cells 9 (.map 5 :: lsL y.S.st y.S.L)), (5, .map 76 y.S.M), (6, .cells 9 (.ss 4 11 0 y.R.D.n none :: lsL y.R.st y.R.L)), (11, .arr 4 wSh false y.R.D.n (wdF y.R.D.W))], 12, gnm 0, [], [], [7, 6, 5, 4, 9, 10, 8], false⟩⟩
noncomputable def pbX (n : Nat) (g : Nat → Nat → AV) (m : Nat) (f : Nat → Nat → AV) (nb lk al : Int) (y : PB) : St := ⟨[.top, .top, .top, .top, .top, .top, .top, .ptr 8 0 0, .ptr 9 0 0, .ptr 10 0 0] ++ List.replicate 113 .top, ⟨[(10, .cells 7 [.int .i64 0, .sym .u64 nb, .sym .i64 y.d.lk, .sym .i64 y.d.en, .sym .i64 y.d.wt, .sym .i64 y.d.th, .sym .i64 al]), (9, .cells 9 [.bool true, .bool false, .sym .u64 nb, .sym .i64 y.x.lk, .sym .i64 y.x.th, .sym .i64 al, .sym .i64 y.x.at_, .sym .i64 y.x.wt, .sym .i64 y.x.en]), (8, .cells 2 [.ptr 4 0 0, .ptr 6 0 0]), (gnm 0, tabAO tab), (1, .arr 4 wSh true n (wdF (bgW g))), (2, .arr 4 wSh true m f), (4, .cells 9 (.map 5 :: lsL y.S.st y.S.L)), (5, .map 76 y.S.M), (6, .cells 9 (.ss 4 11 0 y.R.D.n none :: lsL y.R.st y.R.L)), (11, .arr 4 wSh false y.R.D.n (wdF y.R.D.W))], 12, gnm 0, [], [], [7, 6, 5, 4, 9, 10, 8], false⟩⟩
noncomputable def pbT (n : Nat) (g : Nat → Nat → AV) (m : Nat) (f : Nat → Nat → AV) (nb lk al : Int) (K : Nat) (S : MS) (R : RS) : PJ → St
  | .b => pbU n g m f nb lk al S R
  | .w k => pbW n g m f nb lk al k (pbN m f nb lk al S R k)
  | .o => pbO n g m f nb lk al K (pbN m f nb lk al S R K)
def pbMu (K : Nat) : PJ → Nat
  | .b => K + 2
  | .w k => K + 1 - k
  | .o => 0
def pbI (K : Nat) : PJ → Prop
  | .b => True
  | .w k => k < K
  | .o => True
noncomputable abbrev pbL : Code := loopAt Tryd.prog 3 0
noncomputable def pbLP (n : Nat) (g : Nat → Nat → AV) (m : Nat) (f : Nat → Nat → AV) (nb lk al : Int) (S : MS) (R : RS) (y : PB) : Prop := LoopHolds Tryd.prog pbL (pbU n g m f nb lk al S R) (.exit 0) (pbX n g m f nb lk al y)
end Go.Proofs.YtmlfmmnnbdlabaaDoor
