/-
  Moves of the epoch: the contract.
-/
import Derived.Test.YtmhjecenmgbpeaaMEfDef
set_option linter.unusedSimpArgs false
set_option linter.unusedVariables false
namespace Go.Proofs.Ytmhjecenmgbpeaa
open Go.Ev
theorem mvr_1 (m : MS) (x : AvM) (ii : Nat) : roundB EMo 3000 mvL ((mvU m).hp) [] (mvT x ii) [Hint.b true, Hint.b true, Hint.b false, Hint.b true] (mvT (stepA x) (ii + 1)) =
 some (Ex.norm, [(0 : Nat) = 0,
 (0 : Nat) = 0,
 (0 : Nat) = 0,
 (0 : Nat) = 0,
 IntKind.i64.wrap (Int.ofNat ii + 1) = Int.ofNat (ii + 1),
 2 = (stepA x).a.at_,
 mget x.m.M (key 1 0 0) = (stepA x).a.ep,
 x.a.th = (stepA x).a.th,
 x.a.al = (stepA x).a.al,
 x.a.mv = (stepA x).a.mv,
 IntKind.i64.wrap (x.m.st + 1) = (stepA x).m.st,
 1 = (stepA x).m.L.c,
 1 = (stepA x).m.L.k,
 0 = (stepA x).m.L.a,
 0 = (stepA x).m.L.f,
 mget x.m.M (key 1 0 0) = (stepA x).m.L.w,
 mget x.m.M (key 1 0 0) = (stepA x).m.L.i,
 false = (stepA x).m.L.d,
 ∀ (k : List Int), x.m.M k = (stepA x).m.M k,
 (x.a.at_ == 1) = true,
 (x.a.at_ == 0) = false,
 (!x.a.at_ == 0) = true,
 decide (Int.ofNat ii < 100) = true]) := by kernel_rfl
theorem mvr_2 (m : MS) (x : AvM) (ii : Nat) : roundB EMo 3000 mvL ((mvU m).hp) [] (mvT x ii) [Hint.b true, Hint.b true, Hint.b false, Hint.b false, Hint.b true, Hint.node [], Hint.b true] (mvT (stepA x) (ii + 1)) =
 some (Ex.norm, [(0 : Nat) = 0,
 (0 : Nat) = 0,
 (0 : Nat) = 0,
 (0 : Nat) = 0,
 IntKind.i64.wrap (Int.ofNat ii + 1) = Int.ofNat (ii + 1),
 4 = (stepA x).a.at_,
 x.a.ep = (stepA x).a.ep,
 x.a.th = (stepA x).a.th,
 IntKind.i64.wrap (IntKind.i64.wrap (if 4 < mget x.m.M (key 5 0 0) then 4 else mget x.m.M (key 5 0 0)) * 4) = (stepA x).a.al,
 x.a.mv = (stepA x).a.mv,
 IntKind.i64.wrap (x.m.st + 1) = (stepA x).m.st,
 1 = (stepA x).m.L.c,
 5 = (stepA x).m.L.k,
 0 = (stepA x).m.L.a,
 0 = (stepA x).m.L.f,
 mget x.m.M (key 5 0 0) = (stepA x).m.L.w,
 mget x.m.M (key 5 0 0) = (stepA x).m.L.i,
 false = (stepA x).m.L.d,
 ∀ (k : List Int), x.m.M k = (stepA x).m.M k,
 decide (x.a.th ≥ IntKind.i64.wrap (IntKind.i64.wrap (if 4 < mget x.m.M (key 5 0 0) then 4 else mget x.m.M (key 5 0 0)) * 4)) = true,
 (x.a.at_ == 2) = true,
 (x.a.at_ == 1) = false,
 (x.a.at_ == 0) = false,
 (!x.a.at_ == 0) = true,
 decide (Int.ofNat ii < 100) = true]) := by kernel_rfl
theorem mvr_3 (m : MS) (x : AvM) (ii : Nat) : roundB EMo 3000 mvL ((mvU m).hp) [] (mvT x ii) [Hint.b true, Hint.b true, Hint.b false, Hint.b false, Hint.b true, Hint.node [], Hint.b false] (mvT (stepA x) (ii + 1)) =
 some (Ex.norm, [(0 : Nat) = 0,
 (0 : Nat) = 0,
 (0 : Nat) = 0,
 (0 : Nat) = 0,
 IntKind.i64.wrap (Int.ofNat ii + 1) = Int.ofNat (ii + 1),
 3 = (stepA x).a.at_,
 x.a.ep = (stepA x).a.ep,
 x.a.th = (stepA x).a.th,
 IntKind.i64.wrap (IntKind.i64.wrap (if 4 < mget x.m.M (key 5 0 0) then 4 else mget x.m.M (key 5 0 0)) * 4) = (stepA x).a.al,
 x.a.mv = (stepA x).a.mv,
 IntKind.i64.wrap (x.m.st + 1) = (stepA x).m.st,
 1 = (stepA x).m.L.c,
 5 = (stepA x).m.L.k,
 0 = (stepA x).m.L.a,
 0 = (stepA x).m.L.f,
 mget x.m.M (key 5 0 0) = (stepA x).m.L.w,
 mget x.m.M (key 5 0 0) = (stepA x).m.L.i,
 false = (stepA x).m.L.d,
 ∀ (k : List Int), x.m.M k = (stepA x).m.M k,
 decide (x.a.th ≥ IntKind.i64.wrap (IntKind.i64.wrap (if 4 < mget x.m.M (key 5 0 0) then 4 else mget x.m.M (key 5 0 0)) * 4)) = false,
 (x.a.at_ == 2) = true,
 (x.a.at_ == 1) = false,
 (x.a.at_ == 0) = false,
 (!x.a.at_ == 0) = true,
 decide (Int.ofNat ii < 100) = true]) := by kernel_rfl
theorem mvr_4 (m : MS) (x : AvM) (ii : Nat) : roundB EMo 3000 mvL ((mvU m).hp) [] (mvT x ii) [Hint.b true, Hint.b true, Hint.b false, Hint.b false, Hint.b false, Hint.b true, Hint.b true, Hint.b true] (mvT (stepA x) (ii + 1)) =
 some (Ex.norm, [(0 : Nat) = 0,
 (0 : Nat) = 0,
 (0 : Nat) = 0,
 (0 : Nat) = 0,
 IntKind.i64.wrap (Int.ofNat ii + 1) = Int.ofNat (ii + 1),
 0 = (stepA x).a.at_,
 x.a.ep = (stepA x).a.ep,
 IntKind.i64.wrap (x.a.th + 1) = (stepA x).a.th,
 x.a.al = (stepA x).a.al,
 x.a.mv = (stepA x).a.mv,
 IntKind.i64.wrap (x.m.st + 1) = (stepA x).m.st,
 1 = (stepA x).m.L.c,
 8 = (stepA x).m.L.k,
 x.a.th = (stepA x).m.L.a,
 3 = (stepA x).m.L.f,
 mget x.m.M (key 8 x.a.th 3) = (stepA x).m.L.w,
 mget x.m.M (key 8 x.a.th 3) = (stepA x).m.L.i,
 false = (stepA x).m.L.d,
 ∀ (k : List Int), x.m.M k = (stepA x).m.M k,
 (mget x.m.M (key 8 x.a.th 3) != IntKind.u64.wrap ↑(BitVec.ofInt 64 (IntKind.u64.wrap (x.a.ep * 2)) ||| BitVec.ofInt 64 1).toNat) = true,
 (IntKind.u64.wrap ↑(BitVec.ofInt 64 (mget x.m.M (key 8 x.a.th 3)) &&& BitVec.ofInt 64 1).toNat == 1) = true,
 (x.a.at_ == 3) = true,
 (x.a.at_ == 2) = false,
 (x.a.at_ == 1) = false,
 (x.a.at_ == 0) = false,
 (!x.a.at_ == 0) = true,
 decide (Int.ofNat ii < 100) = true]) := by kernel_rfl
theorem mvr_5 (m : MS) (x : AvM) (ii : Nat) : roundB EMo 3000 mvL ((mvU m).hp) [] (mvT x ii) [Hint.b true, Hint.b true, Hint.b false, Hint.b false, Hint.b false, Hint.b true, Hint.b true, Hint.b false, Hint.node [], Hint.b true] (mvT (stepA x) (ii + 1)) =
 some (Ex.norm, [(0 : Nat) = 0,
 (0 : Nat) = 0,
 (0 : Nat) = 0,
 (0 : Nat) = 0,
 IntKind.i64.wrap (Int.ofNat ii + 1) = Int.ofNat (ii + 1),
 4 = (stepA x).a.at_,
 x.a.ep = (stepA x).a.ep,
 IntKind.i64.wrap (x.a.th + 1) = (stepA x).a.th,
 x.a.al = (stepA x).a.al,
 x.a.mv = (stepA x).a.mv,
 IntKind.i64.wrap (x.m.st + 1) = (stepA x).m.st,
 1 = (stepA x).m.L.c,
 8 = (stepA x).m.L.k,
 x.a.th = (stepA x).m.L.a,
 3 = (stepA x).m.L.f,
 mget x.m.M (key 8 x.a.th 3) = (stepA x).m.L.w,
 mget x.m.M (key 8 x.a.th 3) = (stepA x).m.L.i,
 false = (stepA x).m.L.d,
 ∀ (k : List Int), x.m.M k = (stepA x).m.M k,
 decide (IntKind.i64.wrap (x.a.th + 1) ≥ x.a.al) = true,
 (mget x.m.M (key 8 x.a.th 3) != IntKind.u64.wrap ↑(BitVec.ofInt 64 (IntKind.u64.wrap (x.a.ep * 2)) ||| BitVec.ofInt 64 1).toNat) = false,
 (IntKind.u64.wrap ↑(BitVec.ofInt 64 (mget x.m.M (key 8 x.a.th 3)) &&& BitVec.ofInt 64 1).toNat == 1) = true,
 (x.a.at_ == 3) = true,
 (x.a.at_ == 2) = false,
 (x.a.at_ == 1) = false,
 (x.a.at_ == 0) = false,
 (!x.a.at_ == 0) = true,
 decide (Int.ofNat ii < 100) = true]) := by kernel_rfl
theorem mvr_6 (m : MS) (x : AvM) (ii : Nat) : roundB EMo 3000 mvL ((mvU m).hp) [] (mvT x ii) [Hint.b true, Hint.b true, Hint.b false, Hint.b false, Hint.b false, Hint.b true, Hint.b true, Hint.b false, Hint.node [], Hint.b false] (mvT (stepA x) (ii + 1)) =
 some (Ex.norm, [(0 : Nat) = 0,
 (0 : Nat) = 0,
 (0 : Nat) = 0,
 (0 : Nat) = 0,
 IntKind.i64.wrap (Int.ofNat ii + 1) = Int.ofNat (ii + 1),
 x.a.at_ = (stepA x).a.at_,
 x.a.ep = (stepA x).a.ep,
 IntKind.i64.wrap (x.a.th + 1) = (stepA x).a.th,
 x.a.al = (stepA x).a.al,
 x.a.mv = (stepA x).a.mv,
 IntKind.i64.wrap (x.m.st + 1) = (stepA x).m.st,
 1 = (stepA x).m.L.c,
 8 = (stepA x).m.L.k,
 x.a.th = (stepA x).m.L.a,
 3 = (stepA x).m.L.f,
 mget x.m.M (key 8 x.a.th 3) = (stepA x).m.L.w,
 mget x.m.M (key 8 x.a.th 3) = (stepA x).m.L.i,
 false = (stepA x).m.L.d,
 ∀ (k : List Int), x.m.M k = (stepA x).m.M k,
 decide (IntKind.i64.wrap (x.a.th + 1) ≥ x.a.al) = false,
 (mget x.m.M (key 8 x.a.th 3) != IntKind.u64.wrap ↑(BitVec.ofInt 64 (IntKind.u64.wrap (x.a.ep * 2)) ||| BitVec.ofInt 64 1).toNat) = false,
 (IntKind.u64.wrap ↑(BitVec.ofInt 64 (mget x.m.M (key 8 x.a.th 3)) &&& BitVec.ofInt 64 1).toNat == 1) = true,
 (x.a.at_ == 3) = true,
 (x.a.at_ == 2) = false,
 (x.a.at_ == 1) = false,
 (x.a.at_ == 0) = false,
 (!x.a.at_ == 0) = true,
 decide (Int.ofNat ii < 100) = true]) := by kernel_rfl
theorem mvr_7 (m : MS) (x : AvM) (ii : Nat) : roundB EMo 3000 mvL ((mvU m).hp) [] (mvT x ii) [Hint.b true, Hint.b true, Hint.b false, Hint.b false, Hint.b false, Hint.b true, Hint.b false, Hint.node [], Hint.b true] (mvT (stepA x) (ii + 1)) =
 some (Ex.norm, [(0 : Nat) = 0,
 (0 : Nat) = 0,
 (0 : Nat) = 0,
 (0 : Nat) = 0,
 IntKind.i64.wrap (Int.ofNat ii + 1) = Int.ofNat (ii + 1),
 4 = (stepA x).a.at_,
 x.a.ep = (stepA x).a.ep,
 IntKind.i64.wrap (x.a.th + 1) = (stepA x).a.th,
 x.a.al = (stepA x).a.al,
 x.a.mv = (stepA x).a.mv,
 IntKind.i64.wrap (x.m.st + 1) = (stepA x).m.st,
 1 = (stepA x).m.L.c,
 8 = (stepA x).m.L.k,
 x.a.th = (stepA x).m.L.a,
 3 = (stepA x).m.L.f,
 mget x.m.M (key 8 x.a.th 3) = (stepA x).m.L.w,
 mget x.m.M (key 8 x.a.th 3) = (stepA x).m.L.i,
 false = (stepA x).m.L.d,
 ∀ (k : List Int), x.m.M k = (stepA x).m.M k,
 decide (IntKind.i64.wrap (x.a.th + 1) ≥ x.a.al) = true,
 (IntKind.u64.wrap ↑(BitVec.ofInt 64 (mget x.m.M (key 8 x.a.th 3)) &&& BitVec.ofInt 64 1).toNat == 1) = false,
 (x.a.at_ == 3) = true,
 (x.a.at_ == 2) = false,
 (x.a.at_ == 1) = false,
 (x.a.at_ == 0) = false,
 (!x.a.at_ == 0) = true,
 decide (Int.ofNat ii < 100) = true]) := by kernel_rfl
theorem mvr_8 (m : MS) (x : AvM) (ii : Nat) : roundB EMo 3000 mvL ((mvU m).hp) [] (mvT x ii) [Hint.b true, Hint.b true, Hint.b false, Hint.b false, Hint.b false, Hint.b true, Hint.b false, Hint.node [], Hint.b false] (mvT (stepA x) (ii + 1)) =
 some (Ex.norm, [(0 : Nat) = 0,
 (0 : Nat) = 0,
 (0 : Nat) = 0,
 (0 : Nat) = 0,
 IntKind.i64.wrap (Int.ofNat ii + 1) = Int.ofNat (ii + 1),
 x.a.at_ = (stepA x).a.at_,
 x.a.ep = (stepA x).a.ep,
 IntKind.i64.wrap (x.a.th + 1) = (stepA x).a.th,
 x.a.al = (stepA x).a.al,
 x.a.mv = (stepA x).a.mv,
 IntKind.i64.wrap (x.m.st + 1) = (stepA x).m.st,
 1 = (stepA x).m.L.c,
 8 = (stepA x).m.L.k,
 x.a.th = (stepA x).m.L.a,
 3 = (stepA x).m.L.f,
 mget x.m.M (key 8 x.a.th 3) = (stepA x).m.L.w,
 mget x.m.M (key 8 x.a.th 3) = (stepA x).m.L.i,
 false = (stepA x).m.L.d,
 ∀ (k : List Int), x.m.M k = (stepA x).m.M k,
 decide (IntKind.i64.wrap (x.a.th + 1) ≥ x.a.al) = false,
 (IntKind.u64.wrap ↑(BitVec.ofInt 64 (mget x.m.M (key 8 x.a.th 3)) &&& BitVec.ofInt 64 1).toNat == 1) = false,
 (x.a.at_ == 3) = true,
 (x.a.at_ == 2) = false,
 (x.a.at_ == 1) = false,
 (x.a.at_ == 0) = false,
 (!x.a.at_ == 0) = true,
 decide (Int.ofNat ii < 100) = true]) := by kernel_rfl
theorem mvr_9 (m : MS) (x : AvM) (ii : Nat) : roundB EMo 3000 mvL ((mvU m).hp) [] (mvT x ii) [Hint.b true, Hint.b true, Hint.b false, Hint.b false, Hint.b false, Hint.b false, Hint.b true] (mvT (stepA x) (ii + 1)) =
 some (Ex.norm, [(0 : Nat) = 0,
 (0 : Nat) = 0,
 (0 : Nat) = 0,
 (0 : Nat) = 0,
 IntKind.i64.wrap (Int.ofNat ii + 1) = Int.ofNat (ii + 1),
 0 = (stepA x).a.at_,
 x.a.ep = (stepA x).a.ep,
 x.a.th = (stepA x).a.th,
 x.a.al = (stepA x).a.al,
 casD x.m.M 1 0 0 x.a.ep = (stepA x).a.mv,
 IntKind.i64.wrap (x.m.st + 1) = (stepA x).m.st,
 3 = (stepA x).m.L.c,
 1 = (stepA x).m.L.k,
 0 = (stepA x).m.L.a,
 0 = (stepA x).m.L.f,
 mget x.m.M (key 1 0 0) = (stepA x).m.L.w,
 casI x.m.M 1 0 0 x.a.ep (IntKind.u64.wrap (x.a.ep + 1)) = (stepA x).m.L.i,
 casD x.m.M 1 0 0 x.a.ep = (stepA x).m.L.d,
 ∀ (k : List Int), casM x.m.M 1 0 0 x.a.ep (IntKind.u64.wrap (x.a.ep + 1)) k = (stepA x).m.M k,
 (0 : Int) ≤ (1 : Int),
 (x.a.at_ == 4) = true,
 (x.a.at_ == 3) = false,
 (x.a.at_ == 2) = false,
 (x.a.at_ == 1) = false,
 (x.a.at_ == 0) = false,
 (!x.a.at_ == 0) = true,
 decide (Int.ofNat ii < 100) = true]) := by kernel_rfl
theorem mvr_10 (m : MS) (x : AvM) (ii : Nat) : roundB EMo 3000 mvL ((mvU m).hp) [] (mvT x ii) [Hint.b true, Hint.b true, Hint.b false, Hint.b false, Hint.b false, Hint.b false, Hint.b false] (mvT (stepA x) (ii + 1)) =
 some (Ex.norm, [(0 : Nat) = 0,
 (0 : Nat) = 0,
 (0 : Nat) = 0,
 (0 : Nat) = 0,
 IntKind.i64.wrap (Int.ofNat ii + 1) = Int.ofNat (ii + 1),
 x.a.at_ = (stepA x).a.at_,
 x.a.ep = (stepA x).a.ep,
 x.a.th = (stepA x).a.th,
 x.a.al = (stepA x).a.al,
 x.a.mv = (stepA x).a.mv,
 x.m.st = (stepA x).m.st,
 x.m.L.c = (stepA x).m.L.c,
 x.m.L.k = (stepA x).m.L.k,
 x.m.L.a = (stepA x).m.L.a,
 x.m.L.f = (stepA x).m.L.f,
 x.m.L.w = (stepA x).m.L.w,
 x.m.L.i = (stepA x).m.L.i,
 x.m.L.d = (stepA x).m.L.d,
 ∀ (k : List Int), x.m.M k = (stepA x).m.M k,
 (x.a.at_ == 4) = false,
 (x.a.at_ == 3) = false,
 (x.a.at_ == 2) = false,
 (x.a.at_ == 1) = false,
 (x.a.at_ == 0) = false,
 (!x.a.at_ == 0) = true,
 decide (Int.ofNat ii < 100) = true]) := by kernel_rfl
theorem mvr_11 (m : MS) (x : AvM) (ii : Nat) : roundB EMo 3000 mvL ((mvU m).hp) [] (mvT x ii) [Hint.b true, Hint.b false] (mvX x ii) =
 some (Ex.exit 0, [(0 : Nat) = 0,
 (0 : Nat) = 0,
 Int.ofNat ii = Int.ofNat ii,
 x.a.at_ = x.a.at_,
 x.a.ep = x.a.ep,
 x.a.th = x.a.th,
 x.a.al = x.a.al,
 x.a.mv = x.a.mv,
 x.m.st = x.m.st,
 x.m.L.c = x.m.L.c,
 x.m.L.k = x.m.L.k,
 x.m.L.a = x.m.L.a,
 x.m.L.f = x.m.L.f,
 x.m.L.w = x.m.L.w,
 x.m.L.i = x.m.L.i,
 x.m.L.d = x.m.L.d,
 ∀ (k : List Int), x.m.M k = x.m.M k,
 (!x.a.at_ == 0) = false,
 decide (Int.ofNat ii < 100) = true]) := by kernel_rfl
theorem mvr_12 (m : MS) (x : AvM) (ii : Nat) : roundB EMo 3000 mvL ((mvU m).hp) [] (mvT x ii) [Hint.b false] (mvX x ii) =
 some (Ex.exit 0, [(0 : Nat) = 0,
 (0 : Nat) = 0,
 Int.ofNat ii = Int.ofNat ii,
 x.a.at_ = x.a.at_,
 x.a.ep = x.a.ep,
 x.a.th = x.a.th,
 x.a.al = x.a.al,
 x.a.mv = x.a.mv,
 x.m.st = x.m.st,
 x.m.L.c = x.m.L.c,
 x.m.L.k = x.m.L.k,
 x.m.L.a = x.m.L.a,
 x.m.L.f = x.m.L.f,
 x.m.L.w = x.m.L.w,
 x.m.L.i = x.m.L.i,
 x.m.L.d = x.m.L.d,
 ∀ (k : List Int), x.m.M k = x.m.M k,
 decide (Int.ofNat ii < 100) = false]) := by kernel_rfl
theorem mvi_1 (m : MS) : castSt ((mvU m).hp) [] (mvU m) (mvT (av0 m) 0) =
 some ([(0 : Nat) = 0,
 (0 : Nat) = 0,
 (0 : Nat) = 0,
 (0 : Nat) = 0,
 (0 : Int) = 0,
 (1 : Int) = 1,
 (0 : Int) = 0,
 (0 : Int) = 0,
 (0 : Int) = 0,
 false = (av0 m).a.mv,
 m.st = (av0 m).m.st,
 m.L.c = (av0 m).m.L.c,
 m.L.k = (av0 m).m.L.k,
 m.L.a = (av0 m).m.L.a,
 m.L.f = (av0 m).m.L.f,
 m.L.w = (av0 m).m.L.w,
 m.L.i = (av0 m).m.L.i,
 m.L.d = (av0 m).m.L.d,
 ∀ (k : List Int), m.M k = (av0 m).m.M k]) := by kernel_rfl
theorem mvc_1 (m : MS) (x : AvM) (k : Nat) : callB EMo 3000 19 [AV.ptr 1 0 0] (msH m) ({ k := 2, v := AV.tup [AV.symb x.a.mv, AV.sym IntKind.i64 (Int.ofNat k)], heap := msH x.m, n := 0, wr := [1, 2], ob := [k < 100] }) [] [Hint.lp [0, 4, 5] (Ex.exit 0) (mvX x k).tmps (avH x) 4 [1, 2, 3], Hint.b true] =
 some ([x.a.mv = x.a.mv,
 Int.ofNat k = Int.ofNat k,
 x.m.st = x.m.st,
 x.m.L.c = x.m.L.c,
 x.m.L.k = x.m.L.k,
 x.m.L.a = x.m.L.a,
 x.m.L.f = x.m.L.f,
 x.m.L.w = x.m.L.w,
 x.m.L.i = x.m.L.i,
 x.m.L.d = x.m.L.d,
 ∀ (k : List Int), x.m.M k = x.m.M k,
 mvLP m x k]) := by kernel_rfl
theorem mv_lp (m : MS) (k : Nat) (hk : k < 100) (qk2 : (runA (av0 m) k).a.at_ = 0) (qk3 : ∀ i, i < k → (runA (av0 m) i).a.at_ ≠ 0) : mvLP m (runA (av0 m) k) k := by
  refine loop_rule EMo_ok (I := AvM × Nat) (fun p => mvT p.1 p.2) (fun p => k - p.2) (fun p => p.1 = runA (av0 m) p.2 ∧ p.2 ≤ k) ?_ (fun p hp => ?_)
  ·
    refine ⟨(av0 m, 0), [], _, ⟨rfl, Nat.zero_le _⟩, mvi_1 .., (ob_cons rfl (ob_cons rfl (ob_cons rfl (ob_cons rfl (ob_cons rfl (ob_cons rfl (ob_cons rfl (ob_cons rfl (ob_cons rfl (ob_cons ?_ (ob_cons ?_ (ob_cons ?_ (ob_cons ?_ (ob_cons ?_ (ob_cons ?_ (ob_cons ?_ (ob_cons ?_ (ob_cons ?_ (ob_cons ?_ ob_nil)))))))))))))))))))⟩
    ·
      first | rfl | rfl | (simp [av0]; done)
    ·
      first | rfl | rfl | (simp [av0]; done)
    ·
      first | rfl | rfl | (simp [av0]; done)
    ·
      first | rfl | rfl | (simp [av0]; done)
    ·
      first | rfl | rfl | (simp [av0]; done)
    ·
      first | rfl | rfl | (simp [av0]; done)
    ·
      first | rfl | rfl | (simp [av0]; done)
    ·
      first | rfl | rfl | (simp [av0]; done)
    ·
      first | rfl | rfl | (simp [av0]; done)
    ·
      first | exact fun _ => rfl | rfl | (simp [av0]; done)
  · obtain ⟨x, ii⟩ := p
    obtain ⟨hs, hi⟩ := hp
    simp only at hs hi
    cases h1 : (decide (Int.ofNat ii < 100)) with
    | true =>
      have g1 := of_decide_eq_true h1
      try simp only [Int.ofNat_eq_natCast, ge_iff_le, gt_iff_lt, Int.not_lt, Int.not_le] at g1
      cases h2 : (!x.a.at_ == 0) with
      | true =>
        cases h3 : (x.a.at_ == 1) with
        | true =>
          have hlt : ii < k := by (rcases Nat.lt_or_ge ii k with q | q <;> first | exact q | (exfalso; have e : ii = k := (by omega); subst e; rw [← hs] at qk2; (try rw [h1]); (try rw [h2]); (try rw [h3]); simp_all))
          refine round_norm (s0 := mvU m) (T := fun p : AvM × Nat => mvT p.1 p.2) (i := (x, ii)) (stepA x, ii + 1) (mvr_1 ..) (ob_cons rfl (ob_cons rfl (ob_cons rfl (ob_cons rfl (ob_cons ?_ (ob_cons ?_ (ob_cons ?_ (ob_cons ?_ (ob_cons ?_ (ob_cons ?_ (ob_cons ?_ (ob_cons ?_ (ob_cons ?_ (ob_cons ?_ (ob_cons ?_ (ob_cons ?_ (ob_cons ?_ (ob_cons ?_ (ob_cons ?_ (ob_cons h3 (ob_cons ?_ (ob_cons h2 (ob_cons h1 ob_nil))))))))))))))))))))))) ⟨by show stepA x = runA (av0 m) (ii + 1); rw [hs]; rfl, by show ii + 1 ≤ k; omega⟩ (by show k - (ii + 1) < k - ii; omega)
          ·
            first | exact wrap_nat64 _ (by simp; omega) (by simp; omega) | omega | (simp; omega) | (simp [stepA, mLoad, mCas, badT, lowB, inW, allE, and2, h1, h2, h3]; done) | (simp_all [stepA, mLoad, mCas, badT, lowB, inW, allE, and2]; done)
          ·
            first | rfl | omega | (simp; omega) | (simp [stepA, mLoad, mCas, badT, lowB, inW, allE, and2, h1, h2, h3]; done) | (simp_all [stepA, mLoad, mCas, badT, lowB, inW, allE, and2]; done)
          ·
            first | rfl | omega | (simp; omega) | (simp [stepA, mLoad, mCas, badT, lowB, inW, allE, and2, h1, h2, h3]; done) | (simp_all [stepA, mLoad, mCas, badT, lowB, inW, allE, and2]; done)
          ·
            first | rfl | omega | (simp; omega) | (simp [stepA, mLoad, mCas, badT, lowB, inW, allE, and2, h1, h2, h3]; done) | (simp_all [stepA, mLoad, mCas, badT, lowB, inW, allE, and2]; done)
          ·
            first | rfl | omega | (simp; omega) | (simp [stepA, mLoad, mCas, badT, lowB, inW, allE, and2, h1, h2, h3]; done) | (simp_all [stepA, mLoad, mCas, badT, lowB, inW, allE, and2]; done)
          ·
            first | rfl | omega | (simp; omega) | (simp [stepA, mLoad, mCas, badT, lowB, inW, allE, and2, h1, h2, h3]; done) | (simp_all [stepA, mLoad, mCas, badT, lowB, inW, allE, and2]; done)
          ·
            first | exact wrap_nat64 _ (by simp; omega) (by simp; omega) | omega | (simp; omega) | (simp [stepA, mLoad, mCas, badT, lowB, inW, allE, and2, h1, h2, h3]; done) | (simp_all [stepA, mLoad, mCas, badT, lowB, inW, allE, and2]; done)
          ·
            first | rfl | omega | (simp; omega) | (simp [stepA, mLoad, mCas, badT, lowB, inW, allE, and2, h1, h2, h3]; done) | (simp_all [stepA, mLoad, mCas, badT, lowB, inW, allE, and2]; done)
          ·
            first | rfl | omega | (simp; omega) | (simp [stepA, mLoad, mCas, badT, lowB, inW, allE, and2, h1, h2, h3]; done) | (simp_all [stepA, mLoad, mCas, badT, lowB, inW, allE, and2]; done)
          ·
            first | rfl | omega | (simp; omega) | (simp [stepA, mLoad, mCas, badT, lowB, inW, allE, and2, h1, h2, h3]; done) | (simp_all [stepA, mLoad, mCas, badT, lowB, inW, allE, and2]; done)
          ·
            first | rfl | omega | (simp; omega) | (simp [stepA, mLoad, mCas, badT, lowB, inW, allE, and2, h1, h2, h3]; done) | (simp_all [stepA, mLoad, mCas, badT, lowB, inW, allE, and2]; done)
          ·
            first | rfl | omega | (simp; omega) | (simp [stepA, mLoad, mCas, badT, lowB, inW, allE, and2, h1, h2, h3]; done) | (simp_all [stepA, mLoad, mCas, badT, lowB, inW, allE, and2]; done)
          ·
            first | rfl | omega | (simp; omega) | (simp [stepA, mLoad, mCas, badT, lowB, inW, allE, and2, h1, h2, h3]; done) | (simp_all [stepA, mLoad, mCas, badT, lowB, inW, allE, and2]; done)
          ·
            first | rfl | omega | (simp; omega) | (simp [stepA, mLoad, mCas, badT, lowB, inW, allE, and2, h1, h2, h3]; done) | (simp_all [stepA, mLoad, mCas, badT, lowB, inW, allE, and2]; done)
          ·
            first | exact fun _ => rfl | omega | (simp; omega) | (simp [stepA, mLoad, mCas, badT, lowB, inW, allE, and2, h1, h2, h3]; done) | (simp_all [stepA, mLoad, mCas, badT, lowB, inW, allE, and2]; done)
          ·
            first | (apply Nat.ble_eq_true_of_le; omega) | (simp [Nat.blt_eq]; omega) | omega | (simp; omega) | (simp [stepA, mLoad, mCas, badT, lowB, inW, allE, and2, h1, h2, h3]; done) | (simp_all [stepA, mLoad, mCas, badT, lowB, inW, allE, and2]; done)
        | false =>
          cases h4 : (x.a.at_ == 2) with
          | true =>
            cases h5 : (decide   (x.a.th ≥ IntKind.i64.wrap (IntKind.i64.wrap (if 4 < mget x.m.M (key 5 0 0) then 4 else mget x.m.M (key 5 0 0)) * 4))) with
            | true =>
              have g5 := of_decide_eq_true h5
              try simp only [Int.ofNat_eq_natCast, ge_iff_le, gt_iff_lt, Int.not_lt, Int.not_le] at g5
              have hlt : ii < k := by (rcases Nat.lt_or_ge ii k with q | q <;> first | exact q | (exfalso; have e : ii = k := (by omega); subst e; rw [← hs] at qk2; (try rw [h1]); (try rw [h2]); (try rw [h3]); (try rw [h4]); (try rw [h5]); simp_all))
              refine round_norm (s0 := mvU m) (T := fun p : AvM × Nat => mvT p.1 p.2) (i := (x, ii)) (stepA x, ii + 1) (mvr_2 ..) (ob_cons rfl (ob_cons rfl (ob_cons rfl (ob_cons rfl (ob_cons ?_ (ob_cons ?_ (ob_cons ?_ (ob_cons ?_ (ob_cons ?_ (ob_cons ?_ (ob_cons ?_ (ob_cons ?_ (ob_cons ?_ (ob_cons ?_ (ob_cons ?_ (ob_cons ?_ (ob_cons ?_ (ob_cons ?_ (ob_cons ?_ (ob_cons h5 (ob_cons h4 (ob_cons h3 (ob_cons ?_ (ob_cons h2 (ob_cons h1 ob_nil))))))))))))))))))))))))) ⟨by show stepA x = runA (av0 m) (ii + 1); rw [hs]; rfl, by show ii + 1 ≤ k; omega⟩ (by show k - (ii + 1) < k - ii; omega)
              ·
                first | exact wrap_nat64 _ (by simp; omega) (by simp; omega) | omega | (simp; omega) | (simp [stepA, mLoad, mCas, badT, lowB, inW, allE, and2, h1, h2, h3, h4, h5]; done) | (simp_all [stepA, mLoad, mCas, badT, lowB, inW, allE, and2]; done)
              ·
                first | rfl | omega | (simp; omega) | (simp [stepA, mLoad, mCas, badT, lowB, inW, allE, and2, h1, h2, h3, h4, h5]; done) | (simp_all [stepA, mLoad, mCas, badT, lowB, inW, allE, and2]; done)
              ·
                first | rfl | omega | (simp; omega) | (simp [stepA, mLoad, mCas, badT, lowB, inW, allE, and2, h1, h2, h3, h4, h5]; done) | (simp_all [stepA, mLoad, mCas, badT, lowB, inW, allE, and2]; done)
              ·
                first | rfl | omega | (simp; omega) | (simp [stepA, mLoad, mCas, badT, lowB, inW, allE, and2, h1, h2, h3, h4, h5]; done) | (simp_all [stepA, mLoad, mCas, badT, lowB, inW, allE, and2]; done)
              ·
                first | exact wrap_nat64 _ (by simp; omega) (by simp; omega) | omega | (simp; omega) | (simp [stepA, mLoad, mCas, badT, lowB, inW, allE, and2, h1, h2, h3, h4, h5]; done) | (simp_all [stepA, mLoad, mCas, badT, lowB, inW, allE, and2]; done)
              ·
                first | rfl | omega | (simp; omega) | (simp [stepA, mLoad, mCas, badT, lowB, inW, allE, and2, h1, h2, h3, h4, h5]; done) | (simp_all [stepA, mLoad, mCas, badT, lowB, inW, allE, and2]; done)
              ·
                first | exact wrap_nat64 _ (by simp; omega) (by simp; omega) | omega | (simp; omega) | (simp [stepA, mLoad, mCas, badT, lowB, inW, allE, and2, h1, h2, h3, h4, h5]; done) | (simp_all [stepA, mLoad, mCas, badT, lowB, inW, allE, and2]; done)
              ·
                first | rfl | omega | (simp; omega) | (simp [stepA, mLoad, mCas, badT, lowB, inW, allE, and2, h1, h2, h3, h4, h5]; done) | (simp_all [stepA, mLoad, mCas, badT, lowB, inW, allE, and2]; done)
              ·
                first | rfl | omega | (simp; omega) | (simp [stepA, mLoad, mCas, badT, lowB, inW, allE, and2, h1, h2, h3, h4, h5]; done) | (simp_all [stepA, mLoad, mCas, badT, lowB, inW, allE, and2]; done)
              ·
                first | rfl | omega | (simp; omega) | (simp [stepA, mLoad, mCas, badT, lowB, inW, allE, and2, h1, h2, h3, h4, h5]; done) | (simp_all [stepA, mLoad, mCas, badT, lowB, inW, allE, and2]; done)
              ·
                first | rfl | omega | (simp; omega) | (simp [stepA, mLoad, mCas, badT, lowB, inW, allE, and2, h1, h2, h3, h4, h5]; done) | (simp_all [stepA, mLoad, mCas, badT, lowB, inW, allE, and2]; done)
              ·
                first | rfl | omega | (simp; omega) | (simp [stepA, mLoad, mCas, badT, lowB, inW, allE, and2, h1, h2, h3, h4, h5]; done) | (simp_all [stepA, mLoad, mCas, badT, lowB, inW, allE, and2]; done)
              ·
                first | rfl | omega | (simp; omega) | (simp [stepA, mLoad, mCas, badT, lowB, inW, allE, and2, h1, h2, h3, h4, h5]; done) | (simp_all [stepA, mLoad, mCas, badT, lowB, inW, allE, and2]; done)
              ·
                first | rfl | omega | (simp; omega) | (simp [stepA, mLoad, mCas, badT, lowB, inW, allE, and2, h1, h2, h3, h4, h5]; done) | (simp_all [stepA, mLoad, mCas, badT, lowB, inW, allE, and2]; done)
              ·
                first | exact fun _ => rfl | omega | (simp; omega) | (simp [stepA, mLoad, mCas, badT, lowB, inW, allE, and2, h1, h2, h3, h4, h5]; done) | (simp_all [stepA, mLoad, mCas, badT, lowB, inW, allE, and2]; done)
              ·
                first | (apply Nat.ble_eq_true_of_le; omega) | (simp [Nat.blt_eq]; omega) | omega | (simp; omega) | (simp [stepA, mLoad, mCas, badT, lowB, inW, allE, and2, h1, h2, h3, h4, h5]; done) | (simp_all [stepA, mLoad, mCas, badT, lowB, inW, allE, and2]; done)
            | false =>
              have g5 := of_decide_eq_false h5
              try simp only [Int.ofNat_eq_natCast, ge_iff_le, gt_iff_lt, Int.not_lt, Int.not_le] at g5
              have hlt : ii < k := by (rcases Nat.lt_or_ge ii k with q | q <;> first | exact q | (exfalso; have e : ii = k := (by omega); subst e; rw [← hs] at qk2; (try rw [h1]); (try rw [h2]); (try rw [h3]); (try rw [h4]); (try rw [h5]); simp_all))
              refine round_norm (s0 := mvU m) (T := fun p : AvM × Nat => mvT p.1 p.2) (i := (x, ii)) (stepA x, ii + 1) (mvr_3 ..) (ob_cons rfl (ob_cons rfl (ob_cons rfl (ob_cons rfl (ob_cons ?_ (ob_cons ?_ (ob_cons ?_ (ob_cons ?_ (ob_cons ?_ (ob_cons ?_ (ob_cons ?_ (ob_cons ?_ (ob_cons ?_ (ob_cons ?_ (ob_cons ?_ (ob_cons ?_ (ob_cons ?_ (ob_cons ?_ (ob_cons ?_ (ob_cons h5 (ob_cons h4 (ob_cons h3 (ob_cons ?_ (ob_cons h2 (ob_cons h1 ob_nil))))))))))))))))))))))))) ⟨by show stepA x = runA (av0 m) (ii + 1); rw [hs]; rfl, by show ii + 1 ≤ k; omega⟩ (by show k - (ii + 1) < k - ii; omega)
              ·
                first | exact wrap_nat64 _ (by simp; omega) (by simp; omega) | omega | (simp; omega) | (simp [stepA, mLoad, mCas, badT, lowB, inW, allE, and2, h1, h2, h3, h4, h5]; done) | (simp_all [stepA, mLoad, mCas, badT, lowB, inW, allE, and2]; done)
              ·
                first | rfl | omega | (simp; omega) | (simp [stepA, mLoad, mCas, badT, lowB, inW, allE, and2, h1, h2, h3, h4, h5]; done) | (simp_all [stepA, mLoad, mCas, badT, lowB, inW, allE, and2]; done)
              ·
                first | rfl | omega | (simp; omega) | (simp [stepA, mLoad, mCas, badT, lowB, inW, allE, and2, h1, h2, h3, h4, h5]; done) | (simp_all [stepA, mLoad, mCas, badT, lowB, inW, allE, and2]; done)
              ·
                first | rfl | omega | (simp; omega) | (simp [stepA, mLoad, mCas, badT, lowB, inW, allE, and2, h1, h2, h3, h4, h5]; done) | (simp_all [stepA, mLoad, mCas, badT, lowB, inW, allE, and2]; done)
              ·
                first | exact wrap_nat64 _ (by simp; omega) (by simp; omega) | omega | (simp; omega) | (simp [stepA, mLoad, mCas, badT, lowB, inW, allE, and2, h1, h2, h3, h4, h5]; done) | (simp_all [stepA, mLoad, mCas, badT, lowB, inW, allE, and2]; done)
              ·
                first | rfl | omega | (simp; omega) | (simp [stepA, mLoad, mCas, badT, lowB, inW, allE, and2, h1, h2, h3, h4, h5]; done) | (simp_all [stepA, mLoad, mCas, badT, lowB, inW, allE, and2]; done)
              ·
                first | exact wrap_nat64 _ (by simp; omega) (by simp; omega) | omega | (simp; omega) | (simp [stepA, mLoad, mCas, badT, lowB, inW, allE, and2, h1, h2, h3, h4, h5]; done) | (simp_all [stepA, mLoad, mCas, badT, lowB, inW, allE, and2]; done)
              ·
                first | rfl | omega | (simp; omega) | (simp [stepA, mLoad, mCas, badT, lowB, inW, allE, and2, h1, h2, h3, h4, h5]; done) | (simp_all [stepA, mLoad, mCas, badT, lowB, inW, allE, and2]; done)
              ·
                first | rfl | omega | (simp; omega) | (simp [stepA, mLoad, mCas, badT, lowB, inW, allE, and2, h1, h2, h3, h4, h5]; done) | (simp_all [stepA, mLoad, mCas, badT, lowB, inW, allE, and2]; done)
              ·
                first | rfl | omega | (simp; omega) | (simp [stepA, mLoad, mCas, badT, lowB, inW, allE, and2, h1, h2, h3, h4, h5]; done) | (simp_all [stepA, mLoad, mCas, badT, lowB, inW, allE, and2]; done)
              ·
                first | rfl | omega | (simp; omega) | (simp [stepA, mLoad, mCas, badT, lowB, inW, allE, and2, h1, h2, h3, h4, h5]; done) | (simp_all [stepA, mLoad, mCas, badT, lowB, inW, allE, and2]; done)
              ·
                first | rfl | omega | (simp; omega) | (simp [stepA, mLoad, mCas, badT, lowB, inW, allE, and2, h1, h2, h3, h4, h5]; done) | (simp_all [stepA, mLoad, mCas, badT, lowB, inW, allE, and2]; done)
              ·
                first | rfl | omega | (simp; omega) | (simp [stepA, mLoad, mCas, badT, lowB, inW, allE, and2, h1, h2, h3, h4, h5]; done) | (simp_all [stepA, mLoad, mCas, badT, lowB, inW, allE, and2]; done)
              ·
                first | rfl | omega | (simp; omega) | (simp [stepA, mLoad, mCas, badT, lowB, inW, allE, and2, h1, h2, h3, h4, h5]; done) | (simp_all [stepA, mLoad, mCas, badT, lowB, inW, allE, and2]; done)
              ·
                first | exact fun _ => rfl | omega | (simp; omega) | (simp [stepA, mLoad, mCas, badT, lowB, inW, allE, and2, h1, h2, h3, h4, h5]; done) | (simp_all [stepA, mLoad, mCas, badT, lowB, inW, allE, and2]; done)
              ·
                first | (apply Nat.ble_eq_true_of_le; omega) | (simp [Nat.blt_eq]; omega) | omega | (simp; omega) | (simp [stepA, mLoad, mCas, badT, lowB, inW, allE, and2, h1, h2, h3, h4, h5]; done) | (simp_all [stepA, mLoad, mCas, badT, lowB, inW, allE, and2]; done)
          | false =>
            cases h6 : (x.a.at_ == 3) with
            | true =>
              cases h7 : (IntKind.u64.wrap ↑(BitVec.ofInt 64 (mget x.m.M (key 8 x.a.th 3)) &&& BitVec.ofInt 64 1).toNat == 1) with
              | true =>
                cases h8 : (mget x.m.M (key 8 x.a.th 3) !=   IntKind.u64.wrap ↑(BitVec.ofInt 64 (IntKind.u64.wrap (x.a.ep * 2)) ||| BitVec.ofInt 64 1).toNat) with
                | true =>
                  have hlt : ii < k := by (rcases Nat.lt_or_ge ii k with q | q <;> first | exact q | (exfalso; have e : ii = k := (by omega); subst e; rw [← hs] at qk2; (try rw [h1]); (try rw [h2]); (try rw [h3]); (try rw [h4]); (try rw [h6]); (try rw [h7]); (try rw [h8]); simp_all))
                  refine round_norm (s0 := mvU m) (T := fun p : AvM × Nat => mvT p.1 p.2) (i := (x, ii)) (stepA x, ii + 1) (mvr_4 ..) (ob_cons rfl (ob_cons rfl (ob_cons rfl (ob_cons rfl (ob_cons ?_ (ob_cons ?_ (ob_cons ?_ (ob_cons ?_ (ob_cons ?_ (ob_cons ?_ (ob_cons ?_ (ob_cons ?_ (ob_cons ?_ (ob_cons ?_ (ob_cons ?_ (ob_cons ?_ (ob_cons ?_ (ob_cons ?_ (ob_cons ?_ (ob_cons h8 (ob_cons h7 (ob_cons h6 (ob_cons h4 (ob_cons h3 (ob_cons ?_ (ob_cons h2 (ob_cons h1 ob_nil))))))))))))))))))))))))))) ⟨by show stepA x = runA (av0 m) (ii + 1); rw [hs]; rfl, by show ii + 1 ≤ k; omega⟩ (by show k - (ii + 1) < k - ii; omega)
                  ·
                    first | exact wrap_nat64 _ (by simp; omega) (by simp; omega) | omega | (simp; omega) | (simp [stepA, mLoad, mCas, badT, lowB, inW, allE, and2, h1, h2, h3, h4, h6, h7, h8]; done) | (simp_all [stepA, mLoad, mCas, badT, lowB, inW, allE, and2]; done)
                  ·
                    first | rfl | omega | (simp; omega) | (simp [stepA, mLoad, mCas, badT, lowB, inW, allE, and2, h1, h2, h3, h4, h6, h7, h8]; done) | (simp_all [stepA, mLoad, mCas, badT, lowB, inW, allE, and2]; done)
                  ·
                    first | rfl | omega | (simp; omega) | (simp [stepA, mLoad, mCas, badT, lowB, inW, allE, and2, h1, h2, h3, h4, h6, h7, h8]; done) | (simp_all [stepA, mLoad, mCas, badT, lowB, inW, allE, and2]; done)
                  ·
                    first | exact wrap_nat64 _ (by simp; omega) (by simp; omega) | omega | (simp; omega) | (simp [stepA, mLoad, mCas, badT, lowB, inW, allE, and2, h1, h2, h3, h4, h6, h7, h8]; done) | (simp_all [stepA, mLoad, mCas, badT, lowB, inW, allE, and2]; done)
                  ·
                    first | rfl | omega | (simp; omega) | (simp [stepA, mLoad, mCas, badT, lowB, inW, allE, and2, h1, h2, h3, h4, h6, h7, h8]; done) | (simp_all [stepA, mLoad, mCas, badT, lowB, inW, allE, and2]; done)
                  ·
                    first | rfl | omega | (simp; omega) | (simp [stepA, mLoad, mCas, badT, lowB, inW, allE, and2, h1, h2, h3, h4, h6, h7, h8]; done) | (simp_all [stepA, mLoad, mCas, badT, lowB, inW, allE, and2]; done)
                  ·
                    first | exact wrap_nat64 _ (by simp; omega) (by simp; omega) | omega | (simp; omega) | (simp [stepA, mLoad, mCas, badT, lowB, inW, allE, and2, h1, h2, h3, h4, h6, h7, h8]; done) | (simp_all [stepA, mLoad, mCas, badT, lowB, inW, allE, and2]; done)
                  ·
                    first | rfl | omega | (simp; omega) | (simp [stepA, mLoad, mCas, badT, lowB, inW, allE, and2, h1, h2, h3, h4, h6, h7, h8]; done) | (simp_all [stepA, mLoad, mCas, badT, lowB, inW, allE, and2]; done)
                  ·
                    first | rfl | omega | (simp; omega) | (simp [stepA, mLoad, mCas, badT, lowB, inW, allE, and2, h1, h2, h3, h4, h6, h7, h8]; done) | (simp_all [stepA, mLoad, mCas, badT, lowB, inW, allE, and2]; done)
                  ·
                    first | rfl | omega | (simp; omega) | (simp [stepA, mLoad, mCas, badT, lowB, inW, allE, and2, h1, h2, h3, h4, h6, h7, h8]; done) | (simp_all [stepA, mLoad, mCas, badT, lowB, inW, allE, and2]; done)
                  ·
                    first | rfl | omega | (simp; omega) | (simp [stepA, mLoad, mCas, badT, lowB, inW, allE, and2, h1, h2, h3, h4, h6, h7, h8]; done) | (simp_all [stepA, mLoad, mCas, badT, lowB, inW, allE, and2]; done)
                  ·
                    first | rfl | omega | (simp; omega) | (simp [stepA, mLoad, mCas, badT, lowB, inW, allE, and2, h1, h2, h3, h4, h6, h7, h8]; done) | (simp_all [stepA, mLoad, mCas, badT, lowB, inW, allE, and2]; done)
                  ·
                    first | rfl | omega | (simp; omega) | (simp [stepA, mLoad, mCas, badT, lowB, inW, allE, and2, h1, h2, h3, h4, h6, h7, h8]; done) | (simp_all [stepA, mLoad, mCas, badT, lowB, inW, allE, and2]; done)
                  ·
                    first | rfl | omega | (simp; omega) | (simp [stepA, mLoad, mCas, badT, lowB, inW, allE, and2, h1, h2, h3, h4, h6, h7, h8]; done) | (simp_all [stepA, mLoad, mCas, badT, lowB, inW, allE, and2]; done)
                  ·
                    first | exact fun _ => rfl | omega | (simp; omega) | (simp [stepA, mLoad, mCas, badT, lowB, inW, allE, and2, h1, h2, h3, h4, h6, h7, h8]; done) | (simp_all [stepA, mLoad, mCas, badT, lowB, inW, allE, and2]; done)
                  ·
                    first | (apply Nat.ble_eq_true_of_le; omega) | (simp [Nat.blt_eq]; omega) | omega | (simp; omega) | (simp [stepA, mLoad, mCas, badT, lowB, inW, allE, and2, h1, h2, h3, h4, h6, h7, h8]; done) | (simp_all [stepA, mLoad, mCas, badT, lowB, inW, allE, and2]; done)
                | false =>
                  cases h9 : (decide (IntKind.i64.wrap (x.a.th + 1) ≥ x.a.al)) with
                  | true =>
                    have g9 := of_decide_eq_true h9
                    try simp only [Int.ofNat_eq_natCast, ge_iff_le, gt_iff_lt, Int.not_lt, Int.not_le] at g9
                    have hlt : ii < k := by (rcases Nat.lt_or_ge ii k with q | q <;> first | exact q | (exfalso; have e : ii = k := (by omega); subst e; rw [← hs] at qk2; (try rw [h1]); (try rw [h2]); (try rw [h3]); (try rw [h4]); (try rw [h6]); (try rw [h7]); (try rw [h8]); (try rw [h9]); simp_all))
                    refine round_norm (s0 := mvU m) (T := fun p : AvM × Nat => mvT p.1 p.2) (i := (x, ii)) (stepA x, ii + 1) (mvr_5 ..) (ob_cons rfl (ob_cons rfl (ob_cons rfl (ob_cons rfl (ob_cons ?_ (ob_cons ?_ (ob_cons ?_ (ob_cons ?_ (ob_cons ?_ (ob_cons ?_ (ob_cons ?_ (ob_cons ?_ (ob_cons ?_ (ob_cons ?_ (ob_cons ?_ (ob_cons ?_ (ob_cons ?_ (ob_cons ?_ (ob_cons ?_ (ob_cons h9 (ob_cons h8 (ob_cons h7 (ob_cons h6 (ob_cons h4 (ob_cons h3 (ob_cons ?_ (ob_cons h2 (ob_cons h1 ob_nil)))))))))))))))))))))))))))) ⟨by show stepA x = runA (av0 m) (ii + 1); rw [hs]; rfl, by show ii + 1 ≤ k; omega⟩ (by show k - (ii + 1) < k - ii; omega)
                    ·
                      first | exact wrap_nat64 _ (by simp; omega) (by simp; omega) | omega | (simp; omega) | (simp [stepA, mLoad, mCas, badT, lowB, inW, allE, and2, h1, h2, h3, h4, h6, h7, h8, h9]; done) | (simp_all [stepA, mLoad, mCas, badT, lowB, inW, allE, and2]; done)
                    ·
                      first | rfl | omega | (simp; omega) | (simp [stepA, mLoad, mCas, badT, lowB, inW, allE, and2, h1, h2, h3, h4, h6, h7, h8, h9]; done) | (simp_all [stepA, mLoad, mCas, badT, lowB, inW, allE, and2]; done)
                    ·
                      first | rfl | omega | (simp; omega) | (simp [stepA, mLoad, mCas, badT, lowB, inW, allE, and2, h1, h2, h3, h4, h6, h7, h8, h9]; done) | (simp_all [stepA, mLoad, mCas, badT, lowB, inW, allE, and2]; done)
                    ·
                      first | exact wrap_nat64 _ (by simp; omega) (by simp; omega) | omega | (simp; omega) | (simp [stepA, mLoad, mCas, badT, lowB, inW, allE, and2, h1, h2, h3, h4, h6, h7, h8, h9]; done) | (simp_all [stepA, mLoad, mCas, badT, lowB, inW, allE, and2]; done)
                    ·
                      first | rfl | omega | (simp; omega) | (simp [stepA, mLoad, mCas, badT, lowB, inW, allE, and2, h1, h2, h3, h4, h6, h7, h8, h9]; done) | (simp_all [stepA, mLoad, mCas, badT, lowB, inW, allE, and2]; done)
                    ·
                      first | rfl | omega | (simp; omega) | (simp [stepA, mLoad, mCas, badT, lowB, inW, allE, and2, h1, h2, h3, h4, h6, h7, h8, h9]; done) | (simp_all [stepA, mLoad, mCas, badT, lowB, inW, allE, and2]; done)
                    ·
                      first | exact wrap_nat64 _ (by simp; omega) (by simp; omega) | omega | (simp; omega) | (simp [stepA, mLoad, mCas, badT, lowB, inW, allE, and2, h1, h2, h3, h4, h6, h7, h8, h9]; done) | (simp_all [stepA, mLoad, mCas, badT, lowB, inW, allE, and2]; done)
                    ·
                      first | rfl | omega | (simp; omega) | (simp [stepA, mLoad, mCas, badT, lowB, inW, allE, and2, h1, h2, h3, h4, h6, h7, h8, h9]; done) | (simp_all [stepA, mLoad, mCas, badT, lowB, inW, allE, and2]; done)
                    ·
                      first | rfl | omega | (simp; omega) | (simp [stepA, mLoad, mCas, badT, lowB, inW, allE, and2, h1, h2, h3, h4, h6, h7, h8, h9]; done) | (simp_all [stepA, mLoad, mCas, badT, lowB, inW, allE, and2]; done)
                    ·
                      first | rfl | omega | (simp; omega) | (simp [stepA, mLoad, mCas, badT, lowB, inW, allE, and2, h1, h2, h3, h4, h6, h7, h8, h9]; done) | (simp_all [stepA, mLoad, mCas, badT, lowB, inW, allE, and2]; done)
                    ·
                      first | rfl | omega | (simp; omega) | (simp [stepA, mLoad, mCas, badT, lowB, inW, allE, and2, h1, h2, h3, h4, h6, h7, h8, h9]; done) | (simp_all [stepA, mLoad, mCas, badT, lowB, inW, allE, and2]; done)
                    ·
                      first | rfl | omega | (simp; omega) | (simp [stepA, mLoad, mCas, badT, lowB, inW, allE, and2, h1, h2, h3, h4, h6, h7, h8, h9]; done) | (simp_all [stepA, mLoad, mCas, badT, lowB, inW, allE, and2]; done)
                    ·
                      first | rfl | omega | (simp; omega) | (simp [stepA, mLoad, mCas, badT, lowB, inW, allE, and2, h1, h2, h3, h4, h6, h7, h8, h9]; done) | (simp_all [stepA, mLoad, mCas, badT, lowB, inW, allE, and2]; done)
                    ·
                      first | rfl | omega | (simp; omega) | (simp [stepA, mLoad, mCas, badT, lowB, inW, allE, and2, h1, h2, h3, h4, h6, h7, h8, h9]; done) | (simp_all [stepA, mLoad, mCas, badT, lowB, inW, allE, and2]; done)
                    ·
                      first | exact fun _ => rfl | omega | (simp; omega) | (simp [stepA, mLoad, mCas, badT, lowB, inW, allE, and2, h1, h2, h3, h4, h6, h7, h8, h9]; done) | (simp_all [stepA, mLoad, mCas, badT, lowB, inW, allE, and2]; done)
                    ·
                      first | (apply Nat.ble_eq_true_of_le; omega) | (simp [Nat.blt_eq]; omega) | omega | (simp; omega) | (simp [stepA, mLoad, mCas, badT, lowB, inW, allE, and2, h1, h2, h3, h4, h6, h7, h8, h9]; done) | (simp_all [stepA, mLoad, mCas, badT, lowB, inW, allE, and2]; done)
                  | false =>
                    have g9 := of_decide_eq_false h9
                    try simp only [Int.ofNat_eq_natCast, ge_iff_le, gt_iff_lt, Int.not_lt, Int.not_le] at g9
                    have hlt : ii < k := by (rcases Nat.lt_or_ge ii k with q | q <;> first | exact q | (exfalso; have e : ii = k := (by omega); subst e; rw [← hs] at qk2; (try rw [h1]); (try rw [h2]); (try rw [h3]); (try rw [h4]); (try rw [h6]); (try rw [h7]); (try rw [h8]); (try rw [h9]); simp_all))
                    refine round_norm (s0 := mvU m) (T := fun p : AvM × Nat => mvT p.1 p.2) (i := (x, ii)) (stepA x, ii + 1) (mvr_6 ..) (ob_cons rfl (ob_cons rfl (ob_cons rfl (ob_cons rfl (ob_cons ?_ (ob_cons ?_ (ob_cons ?_ (ob_cons ?_ (ob_cons ?_ (ob_cons ?_ (ob_cons ?_ (ob_cons ?_ (ob_cons ?_ (ob_cons ?_ (ob_cons ?_ (ob_cons ?_ (ob_cons ?_ (ob_cons ?_ (ob_cons ?_ (ob_cons h9 (ob_cons h8 (ob_cons h7 (ob_cons h6 (ob_cons h4 (ob_cons h3 (ob_cons ?_ (ob_cons h2 (ob_cons h1 ob_nil)))))))))))))))))))))))))))) ⟨by show stepA x = runA (av0 m) (ii + 1); rw [hs]; rfl, by show ii + 1 ≤ k; omega⟩ (by show k - (ii + 1) < k - ii; omega)
                    ·
                      first | exact wrap_nat64 _ (by simp; omega) (by simp; omega) | omega | (simp; omega) | (simp [stepA, mLoad, mCas, badT, lowB, inW, allE, and2, h1, h2, h3, h4, h6, h7, h8, h9]; done) | (simp_all [stepA, mLoad, mCas, badT, lowB, inW, allE, and2]; done)
                    ·
                      first | rfl | omega | (simp; omega) | (simp [stepA, mLoad, mCas, badT, lowB, inW, allE, and2, h1, h2, h3, h4, h6, h7, h8, h9]; done) | (simp_all [stepA, mLoad, mCas, badT, lowB, inW, allE, and2]; done)
                    ·
                      first | rfl | omega | (simp; omega) | (simp [stepA, mLoad, mCas, badT, lowB, inW, allE, and2, h1, h2, h3, h4, h6, h7, h8, h9]; done) | (simp_all [stepA, mLoad, mCas, badT, lowB, inW, allE, and2]; done)
                    ·
                      first | exact wrap_nat64 _ (by simp; omega) (by simp; omega) | omega | (simp; omega) | (simp [stepA, mLoad, mCas, badT, lowB, inW, allE, and2, h1, h2, h3, h4, h6, h7, h8, h9]; done) | (simp_all [stepA, mLoad, mCas, badT, lowB, inW, allE, and2]; done)
                    ·
                      first | rfl | omega | (simp; omega) | (simp [stepA, mLoad, mCas, badT, lowB, inW, allE, and2, h1, h2, h3, h4, h6, h7, h8, h9]; done) | (simp_all [stepA, mLoad, mCas, badT, lowB, inW, allE, and2]; done)
                    ·
                      first | rfl | omega | (simp; omega) | (simp [stepA, mLoad, mCas, badT, lowB, inW, allE, and2, h1, h2, h3, h4, h6, h7, h8, h9]; done) | (simp_all [stepA, mLoad, mCas, badT, lowB, inW, allE, and2]; done)
                    ·
                      first | exact wrap_nat64 _ (by simp; omega) (by simp; omega) | omega | (simp; omega) | (simp [stepA, mLoad, mCas, badT, lowB, inW, allE, and2, h1, h2, h3, h4, h6, h7, h8, h9]; done) | (simp_all [stepA, mLoad, mCas, badT, lowB, inW, allE, and2]; done)
                    ·
                      first | rfl | omega | (simp; omega) | (simp [stepA, mLoad, mCas, badT, lowB, inW, allE, and2, h1, h2, h3, h4, h6, h7, h8, h9]; done) | (simp_all [stepA, mLoad, mCas, badT, lowB, inW, allE, and2]; done)
                    ·
                      first | rfl | omega | (simp; omega) | (simp [stepA, mLoad, mCas, badT, lowB, inW, allE, and2, h1, h2, h3, h4, h6, h7, h8, h9]; done) | (simp_all [stepA, mLoad, mCas, badT, lowB, inW, allE, and2]; done)
                    ·
                      first | rfl | omega | (simp; omega) | (simp [stepA, mLoad, mCas, badT, lowB, inW, allE, and2, h1, h2, h3, h4, h6, h7, h8, h9]; done) | (simp_all [stepA, mLoad, mCas, badT, lowB, inW, allE, and2]; done)
                    ·
                      first | rfl | omega | (simp; omega) | (simp [stepA, mLoad, mCas, badT, lowB, inW, allE, and2, h1, h2, h3, h4, h6, h7, h8, h9]; done) | (simp_all [stepA, mLoad, mCas, badT, lowB, inW, allE, and2]; done)
                    ·
                      first | rfl | omega | (simp; omega) | (simp [stepA, mLoad, mCas, badT, lowB, inW, allE, and2, h1, h2, h3, h4, h6, h7, h8, h9]; done) | (simp_all [stepA, mLoad, mCas, badT, lowB, inW, allE, and2]; done)
                    ·
                      first | rfl | omega | (simp; omega) | (simp [stepA, mLoad, mCas, badT, lowB, inW, allE, and2, h1, h2, h3, h4, h6, h7, h8, h9]; done) | (simp_all [stepA, mLoad, mCas, badT, lowB, inW, allE, and2]; done)
                    ·
                      first | rfl | omega | (simp; omega) | (simp [stepA, mLoad, mCas, badT, lowB, inW, allE, and2, h1, h2, h3, h4, h6, h7, h8, h9]; done) | (simp_all [stepA, mLoad, mCas, badT, lowB, inW, allE, and2]; done)
                    ·
                      first | exact fun _ => rfl | omega | (simp; omega) | (simp [stepA, mLoad, mCas, badT, lowB, inW, allE, and2, h1, h2, h3, h4, h6, h7, h8, h9]; done) | (simp_all [stepA, mLoad, mCas, badT, lowB, inW, allE, and2]; done)
                    ·
                      first | (apply Nat.ble_eq_true_of_le; omega) | (simp [Nat.blt_eq]; omega) | omega | (simp; omega) | (simp [stepA, mLoad, mCas, badT, lowB, inW, allE, and2, h1, h2, h3, h4, h6, h7, h8, h9]; done) | (simp_all [stepA, mLoad, mCas, badT, lowB, inW, allE, and2]; done)
              | false =>
                cases h10 : (decide (IntKind.i64.wrap (x.a.th + 1) ≥ x.a.al)) with
                | true =>
                  have g10 := of_decide_eq_true h10
                  try simp only [Int.ofNat_eq_natCast, ge_iff_le, gt_iff_lt, Int.not_lt, Int.not_le] at g10
                  have hlt : ii < k := by (rcases Nat.lt_or_ge ii k with q | q <;> first | exact q | (exfalso; have e : ii = k := (by omega); subst e; rw [← hs] at qk2; (try rw [h1]); (try rw [h2]); (try rw [h3]); (try rw [h4]); (try rw [h6]); (try rw [h7]); (try rw [h10]); simp_all))
                  refine round_norm (s0 := mvU m) (T := fun p : AvM × Nat => mvT p.1 p.2) (i := (x, ii)) (stepA x, ii + 1) (mvr_7 ..) (ob_cons rfl (ob_cons rfl (ob_cons rfl (ob_cons rfl (ob_cons ?_ (ob_cons ?_ (ob_cons ?_ (ob_cons ?_ (ob_cons ?_ (ob_cons ?_ (ob_cons ?_ (ob_cons ?_ (ob_cons ?_ (ob_cons ?_ (ob_cons ?_ (ob_cons ?_ (ob_cons ?_ (ob_cons ?_ (ob_cons ?_ (ob_cons h10 (ob_cons h7 (ob_cons h6 (ob_cons h4 (ob_cons h3 (ob_cons ?_ (ob_cons h2 (ob_cons h1 ob_nil))))))))))))))))))))))))))) ⟨by show stepA x = runA (av0 m) (ii + 1); rw [hs]; rfl, by show ii + 1 ≤ k; omega⟩ (by show k - (ii + 1) < k - ii; omega)
                  ·
                    first | exact wrap_nat64 _ (by simp; omega) (by simp; omega) | omega | (simp; omega) | (simp [stepA, mLoad, mCas, badT, lowB, inW, allE, and2, h1, h2, h3, h4, h6, h7, h10]; done) | (simp_all [stepA, mLoad, mCas, badT, lowB, inW, allE, and2]; done)
                  ·
                    first | rfl | omega | (simp; omega) | (simp [stepA, mLoad, mCas, badT, lowB, inW, allE, and2, h1, h2, h3, h4, h6, h7, h10]; done) | (simp_all [stepA, mLoad, mCas, badT, lowB, inW, allE, and2]; done)
                  ·
                    first | rfl | omega | (simp; omega) | (simp [stepA, mLoad, mCas, badT, lowB, inW, allE, and2, h1, h2, h3, h4, h6, h7, h10]; done) | (simp_all [stepA, mLoad, mCas, badT, lowB, inW, allE, and2]; done)
                  ·
                    first | exact wrap_nat64 _ (by simp; omega) (by simp; omega) | omega | (simp; omega) | (simp [stepA, mLoad, mCas, badT, lowB, inW, allE, and2, h1, h2, h3, h4, h6, h7, h10]; done) | (simp_all [stepA, mLoad, mCas, badT, lowB, inW, allE, and2]; done)
                  ·
                    first | rfl | omega | (simp; omega) | (simp [stepA, mLoad, mCas, badT, lowB, inW, allE, and2, h1, h2, h3, h4, h6, h7, h10]; done) | (simp_all [stepA, mLoad, mCas, badT, lowB, inW, allE, and2]; done)
                  ·
                    first | rfl | omega | (simp; omega) | (simp [stepA, mLoad, mCas, badT, lowB, inW, allE, and2, h1, h2, h3, h4, h6, h7, h10]; done) | (simp_all [stepA, mLoad, mCas, badT, lowB, inW, allE, and2]; done)
                  ·
                    first | exact wrap_nat64 _ (by simp; omega) (by simp; omega) | omega | (simp; omega) | (simp [stepA, mLoad, mCas, badT, lowB, inW, allE, and2, h1, h2, h3, h4, h6, h7, h10]; done) | (simp_all [stepA, mLoad, mCas, badT, lowB, inW, allE, and2]; done)
                  ·
                    first | rfl | omega | (simp; omega) | (simp [stepA, mLoad, mCas, badT, lowB, inW, allE, and2, h1, h2, h3, h4, h6, h7, h10]; done) | (simp_all [stepA, mLoad, mCas, badT, lowB, inW, allE, and2]; done)
                  ·
                    first | rfl | omega | (simp; omega) | (simp [stepA, mLoad, mCas, badT, lowB, inW, allE, and2, h1, h2, h3, h4, h6, h7, h10]; done) | (simp_all [stepA, mLoad, mCas, badT, lowB, inW, allE, and2]; done)
                  ·
                    first | rfl | omega | (simp; omega) | (simp [stepA, mLoad, mCas, badT, lowB, inW, allE, and2, h1, h2, h3, h4, h6, h7, h10]; done) | (simp_all [stepA, mLoad, mCas, badT, lowB, inW, allE, and2]; done)
                  ·
                    first | rfl | omega | (simp; omega) | (simp [stepA, mLoad, mCas, badT, lowB, inW, allE, and2, h1, h2, h3, h4, h6, h7, h10]; done) | (simp_all [stepA, mLoad, mCas, badT, lowB, inW, allE, and2]; done)
                  ·
                    first | rfl | omega | (simp; omega) | (simp [stepA, mLoad, mCas, badT, lowB, inW, allE, and2, h1, h2, h3, h4, h6, h7, h10]; done) | (simp_all [stepA, mLoad, mCas, badT, lowB, inW, allE, and2]; done)
                  ·
                    first | rfl | omega | (simp; omega) | (simp [stepA, mLoad, mCas, badT, lowB, inW, allE, and2, h1, h2, h3, h4, h6, h7, h10]; done) | (simp_all [stepA, mLoad, mCas, badT, lowB, inW, allE, and2]; done)
                  ·
                    first | rfl | omega | (simp; omega) | (simp [stepA, mLoad, mCas, badT, lowB, inW, allE, and2, h1, h2, h3, h4, h6, h7, h10]; done) | (simp_all [stepA, mLoad, mCas, badT, lowB, inW, allE, and2]; done)
                  ·
                    first | exact fun _ => rfl | omega | (simp; omega) | (simp [stepA, mLoad, mCas, badT, lowB, inW, allE, and2, h1, h2, h3, h4, h6, h7, h10]; done) | (simp_all [stepA, mLoad, mCas, badT, lowB, inW, allE, and2]; done)
                  ·
                    first | (apply Nat.ble_eq_true_of_le; omega) | (simp [Nat.blt_eq]; omega) | omega | (simp; omega) | (simp [stepA, mLoad, mCas, badT, lowB, inW, allE, and2, h1, h2, h3, h4, h6, h7, h10]; done) | (simp_all [stepA, mLoad, mCas, badT, lowB, inW, allE, and2]; done)
                | false =>
                  have g10 := of_decide_eq_false h10
                  try simp only [Int.ofNat_eq_natCast, ge_iff_le, gt_iff_lt, Int.not_lt, Int.not_le] at g10
                  have hlt : ii < k := by (rcases Nat.lt_or_ge ii k with q | q <;> first | exact q | (exfalso; have e : ii = k := (by omega); subst e; rw [← hs] at qk2; (try rw [h1]); (try rw [h2]); (try rw [h3]); (try rw [h4]); (try rw [h6]); (try rw [h7]); (try rw [h10]); simp_all))
                  refine round_norm (s0 := mvU m) (T := fun p : AvM × Nat => mvT p.1 p.2) (i := (x, ii)) (stepA x, ii + 1) (mvr_8 ..) (ob_cons rfl (ob_cons rfl (ob_cons rfl (ob_cons rfl (ob_cons ?_ (ob_cons ?_ (ob_cons ?_ (ob_cons ?_ (ob_cons ?_ (ob_cons ?_ (ob_cons ?_ (ob_cons ?_ (ob_cons ?_ (ob_cons ?_ (ob_cons ?_ (ob_cons ?_ (ob_cons ?_ (ob_cons ?_ (ob_cons ?_ (ob_cons h10 (ob_cons h7 (ob_cons h6 (ob_cons h4 (ob_cons h3 (ob_cons ?_ (ob_cons h2 (ob_cons h1 ob_nil))))))))))))))))))))))))))) ⟨by show stepA x = runA (av0 m) (ii + 1); rw [hs]; rfl, by show ii + 1 ≤ k; omega⟩ (by show k - (ii + 1) < k - ii; omega)
                  ·
                    first | exact wrap_nat64 _ (by simp; omega) (by simp; omega) | omega | (simp; omega) | (simp [stepA, mLoad, mCas, badT, lowB, inW, allE, and2, h1, h2, h3, h4, h6, h7, h10]; done) | (simp_all [stepA, mLoad, mCas, badT, lowB, inW, allE, and2]; done)
                  ·
                    first | rfl | omega | (simp; omega) | (simp [stepA, mLoad, mCas, badT, lowB, inW, allE, and2, h1, h2, h3, h4, h6, h7, h10]; done) | (simp_all [stepA, mLoad, mCas, badT, lowB, inW, allE, and2]; done)
                  ·
                    first | rfl | omega | (simp; omega) | (simp [stepA, mLoad, mCas, badT, lowB, inW, allE, and2, h1, h2, h3, h4, h6, h7, h10]; done) | (simp_all [stepA, mLoad, mCas, badT, lowB, inW, allE, and2]; done)
                  ·
                    first | exact wrap_nat64 _ (by simp; omega) (by simp; omega) | omega | (simp; omega) | (simp [stepA, mLoad, mCas, badT, lowB, inW, allE, and2, h1, h2, h3, h4, h6, h7, h10]; done) | (simp_all [stepA, mLoad, mCas, badT, lowB, inW, allE, and2]; done)
                  ·
                    first | rfl | omega | (simp; omega) | (simp [stepA, mLoad, mCas, badT, lowB, inW, allE, and2, h1, h2, h3, h4, h6, h7, h10]; done) | (simp_all [stepA, mLoad, mCas, badT, lowB, inW, allE, and2]; done)
                  ·
                    first | rfl | omega | (simp; omega) | (simp [stepA, mLoad, mCas, badT, lowB, inW, allE, and2, h1, h2, h3, h4, h6, h7, h10]; done) | (simp_all [stepA, mLoad, mCas, badT, lowB, inW, allE, and2]; done)
                  ·
                    first | exact wrap_nat64 _ (by simp; omega) (by simp; omega) | omega | (simp; omega) | (simp [stepA, mLoad, mCas, badT, lowB, inW, allE, and2, h1, h2, h3, h4, h6, h7, h10]; done) | (simp_all [stepA, mLoad, mCas, badT, lowB, inW, allE, and2]; done)
                  ·
                    first | rfl | omega | (simp; omega) | (simp [stepA, mLoad, mCas, badT, lowB, inW, allE, and2, h1, h2, h3, h4, h6, h7, h10]; done) | (simp_all [stepA, mLoad, mCas, badT, lowB, inW, allE, and2]; done)
                  ·
                    first | rfl | omega | (simp; omega) | (simp [stepA, mLoad, mCas, badT, lowB, inW, allE, and2, h1, h2, h3, h4, h6, h7, h10]; done) | (simp_all [stepA, mLoad, mCas, badT, lowB, inW, allE, and2]; done)
                  ·
                    first | rfl | omega | (simp; omega) | (simp [stepA, mLoad, mCas, badT, lowB, inW, allE, and2, h1, h2, h3, h4, h6, h7, h10]; done) | (simp_all [stepA, mLoad, mCas, badT, lowB, inW, allE, and2]; done)
                  ·
                    first | rfl | omega | (simp; omega) | (simp [stepA, mLoad, mCas, badT, lowB, inW, allE, and2, h1, h2, h3, h4, h6, h7, h10]; done) | (simp_all [stepA, mLoad, mCas, badT, lowB, inW, allE, and2]; done)
                  ·
                    first | rfl | omega | (simp; omega) | (simp [stepA, mLoad, mCas, badT, lowB, inW, allE, and2, h1, h2, h3, h4, h6, h7, h10]; done) | (simp_all [stepA, mLoad, mCas, badT, lowB, inW, allE, and2]; done)
                  ·
                    first | rfl | omega | (simp; omega) | (simp [stepA, mLoad, mCas, badT, lowB, inW, allE, and2, h1, h2, h3, h4, h6, h7, h10]; done) | (simp_all [stepA, mLoad, mCas, badT, lowB, inW, allE, and2]; done)
                  ·
                    first | rfl | omega | (simp; omega) | (simp [stepA, mLoad, mCas, badT, lowB, inW, allE, and2, h1, h2, h3, h4, h6, h7, h10]; done) | (simp_all [stepA, mLoad, mCas, badT, lowB, inW, allE, and2]; done)
                  ·
                    first | exact fun _ => rfl | omega | (simp; omega) | (simp [stepA, mLoad, mCas, badT, lowB, inW, allE, and2, h1, h2, h3, h4, h6, h7, h10]; done) | (simp_all [stepA, mLoad, mCas, badT, lowB, inW, allE, and2]; done)
                  ·
                    first | (apply Nat.ble_eq_true_of_le; omega) | (simp [Nat.blt_eq]; omega) | omega | (simp; omega) | (simp [stepA, mLoad, mCas, badT, lowB, inW, allE, and2, h1, h2, h3, h4, h6, h7, h10]; done) | (simp_all [stepA, mLoad, mCas, badT, lowB, inW, allE, and2]; done)
            | false =>
              cases h11 : (x.a.at_ == 4) with
              | true =>
                have hlt : ii < k := by (rcases Nat.lt_or_ge ii k with q | q <;> first | exact q | (exfalso; have e : ii = k := (by omega); subst e; rw [← hs] at qk2; (try rw [h1]); (try rw [h2]); (try rw [h3]); (try rw [h4]); (try rw [h6]); (try rw [h11]); simp_all))
                refine round_norm (s0 := mvU m) (T := fun p : AvM × Nat => mvT p.1 p.2) (i := (x, ii)) (stepA x, ii + 1) (mvr_9 ..) (ob_cons rfl (ob_cons rfl (ob_cons rfl (ob_cons rfl (ob_cons ?_ (ob_cons ?_ (ob_cons ?_ (ob_cons ?_ (ob_cons ?_ (ob_cons ?_ (ob_cons ?_ (ob_cons ?_ (ob_cons ?_ (ob_cons ?_ (ob_cons ?_ (ob_cons ?_ (ob_cons ?_ (ob_cons ?_ (ob_cons ?_ (ob_cons (by decide) (ob_cons h11 (ob_cons h6 (ob_cons h4 (ob_cons h3 (ob_cons ?_ (ob_cons h2 (ob_cons h1 ob_nil))))))))))))))))))))))))))) ⟨by show stepA x = runA (av0 m) (ii + 1); rw [hs]; rfl, by show ii + 1 ≤ k; omega⟩ (by show k - (ii + 1) < k - ii; omega)
                ·
                  first | exact wrap_nat64 _ (by simp; omega) (by simp; omega) | omega | (simp; omega) | (simp [stepA, mLoad, mCas, badT, lowB, inW, allE, and2, h1, h2, h3, h4, h6, h11]; done) | (simp_all [stepA, mLoad, mCas, badT, lowB, inW, allE, and2]; done)
                ·
                  first | rfl | omega | (simp; omega) | (simp [stepA, mLoad, mCas, badT, lowB, inW, allE, and2, h1, h2, h3, h4, h6, h11]; done) | (simp_all [stepA, mLoad, mCas, badT, lowB, inW, allE, and2]; done)
                ·
                  first | rfl | omega | (simp; omega) | (simp [stepA, mLoad, mCas, badT, lowB, inW, allE, and2, h1, h2, h3, h4, h6, h11]; done) | (simp_all [stepA, mLoad, mCas, badT, lowB, inW, allE, and2]; done)
                ·
                  first | rfl | omega | (simp; omega) | (simp [stepA, mLoad, mCas, badT, lowB, inW, allE, and2, h1, h2, h3, h4, h6, h11]; done) | (simp_all [stepA, mLoad, mCas, badT, lowB, inW, allE, and2]; done)
                ·
                  first | rfl | omega | (simp; omega) | (simp [stepA, mLoad, mCas, badT, lowB, inW, allE, and2, h1, h2, h3, h4, h6, h11]; done) | (simp_all [stepA, mLoad, mCas, badT, lowB, inW, allE, and2]; done)
                ·
                  first | rfl | omega | (simp; omega) | (simp [stepA, mLoad, mCas, badT, lowB, inW, allE, and2, h1, h2, h3, h4, h6, h11]; done) | (simp_all [stepA, mLoad, mCas, badT, lowB, inW, allE, and2]; done)
                ·
                  first | exact wrap_nat64 _ (by simp; omega) (by simp; omega) | omega | (simp; omega) | (simp [stepA, mLoad, mCas, badT, lowB, inW, allE, and2, h1, h2, h3, h4, h6, h11]; done) | (simp_all [stepA, mLoad, mCas, badT, lowB, inW, allE, and2]; done)
                ·
                  first | rfl | omega | (simp; omega) | (simp [stepA, mLoad, mCas, badT, lowB, inW, allE, and2, h1, h2, h3, h4, h6, h11]; done) | (simp_all [stepA, mLoad, mCas, badT, lowB, inW, allE, and2]; done)
                ·
                  first | rfl | omega | (simp; omega) | (simp [stepA, mLoad, mCas, badT, lowB, inW, allE, and2, h1, h2, h3, h4, h6, h11]; done) | (simp_all [stepA, mLoad, mCas, badT, lowB, inW, allE, and2]; done)
                ·
                  first | rfl | omega | (simp; omega) | (simp [stepA, mLoad, mCas, badT, lowB, inW, allE, and2, h1, h2, h3, h4, h6, h11]; done) | (simp_all [stepA, mLoad, mCas, badT, lowB, inW, allE, and2]; done)
                ·
                  first | rfl | omega | (simp; omega) | (simp [stepA, mLoad, mCas, badT, lowB, inW, allE, and2, h1, h2, h3, h4, h6, h11]; done) | (simp_all [stepA, mLoad, mCas, badT, lowB, inW, allE, and2]; done)
                ·
                  first | rfl | omega | (simp; omega) | (simp [stepA, mLoad, mCas, badT, lowB, inW, allE, and2, h1, h2, h3, h4, h6, h11]; done) | (simp_all [stepA, mLoad, mCas, badT, lowB, inW, allE, and2]; done)
                ·
                  first | rfl | omega | (simp; omega) | (simp [stepA, mLoad, mCas, badT, lowB, inW, allE, and2, h1, h2, h3, h4, h6, h11]; done) | (simp_all [stepA, mLoad, mCas, badT, lowB, inW, allE, and2]; done)
                ·
                  first | rfl | omega | (simp; omega) | (simp [stepA, mLoad, mCas, badT, lowB, inW, allE, and2, h1, h2, h3, h4, h6, h11]; done) | (simp_all [stepA, mLoad, mCas, badT, lowB, inW, allE, and2]; done)
                ·
                  first | exact fun _ => rfl | omega | (simp; omega) | (simp [stepA, mLoad, mCas, badT, lowB, inW, allE, and2, h1, h2, h3, h4, h6, h11]; done) | (simp_all [stepA, mLoad, mCas, badT, lowB, inW, allE, and2]; done)
                ·
                  first | (apply Nat.ble_eq_true_of_le; omega) | (simp [Nat.blt_eq]; omega) | omega | (simp; omega) | (simp [stepA, mLoad, mCas, badT, lowB, inW, allE, and2, h1, h2, h3, h4, h6, h11]; done) | (simp_all [stepA, mLoad, mCas, badT, lowB, inW, allE, and2]; done)
              | false =>
                have hlt : ii < k := by (rcases Nat.lt_or_ge ii k with q | q <;> first | exact q | (exfalso; have e : ii = k := (by omega); subst e; rw [← hs] at qk2; (try rw [h1]); (try rw [h2]); (try rw [h3]); (try rw [h4]); (try rw [h6]); (try rw [h11]); simp_all))
                refine round_norm (s0 := mvU m) (T := fun p : AvM × Nat => mvT p.1 p.2) (i := (x, ii)) (stepA x, ii + 1) (mvr_10 ..) (ob_cons rfl (ob_cons rfl (ob_cons rfl (ob_cons rfl (ob_cons ?_ (ob_cons ?_ (ob_cons ?_ (ob_cons ?_ (ob_cons ?_ (ob_cons ?_ (ob_cons ?_ (ob_cons ?_ (ob_cons ?_ (ob_cons ?_ (ob_cons ?_ (ob_cons ?_ (ob_cons ?_ (ob_cons ?_ (ob_cons ?_ (ob_cons h11 (ob_cons h6 (ob_cons h4 (ob_cons h3 (ob_cons ?_ (ob_cons h2 (ob_cons h1 ob_nil)))))))))))))))))))))))))) ⟨by show stepA x = runA (av0 m) (ii + 1); rw [hs]; rfl, by show ii + 1 ≤ k; omega⟩ (by show k - (ii + 1) < k - ii; omega)
                ·
                  first | exact wrap_nat64 _ (by simp; omega) (by simp; omega) | omega | (simp; omega) | (simp [stepA, mLoad, mCas, badT, lowB, inW, allE, and2, h1, h2, h3, h4, h6, h11]; done) | (simp_all [stepA, mLoad, mCas, badT, lowB, inW, allE, and2]; done)
                ·
                  first | rfl | omega | (simp; omega) | (simp [stepA, mLoad, mCas, badT, lowB, inW, allE, and2, h1, h2, h3, h4, h6, h11]; done) | (simp_all [stepA, mLoad, mCas, badT, lowB, inW, allE, and2]; done)
                ·
                  first | rfl | omega | (simp; omega) | (simp [stepA, mLoad, mCas, badT, lowB, inW, allE, and2, h1, h2, h3, h4, h6, h11]; done) | (simp_all [stepA, mLoad, mCas, badT, lowB, inW, allE, and2]; done)
                ·
                  first | rfl | omega | (simp; omega) | (simp [stepA, mLoad, mCas, badT, lowB, inW, allE, and2, h1, h2, h3, h4, h6, h11]; done) | (simp_all [stepA, mLoad, mCas, badT, lowB, inW, allE, and2]; done)
                ·
                  first | rfl | omega | (simp; omega) | (simp [stepA, mLoad, mCas, badT, lowB, inW, allE, and2, h1, h2, h3, h4, h6, h11]; done) | (simp_all [stepA, mLoad, mCas, badT, lowB, inW, allE, and2]; done)
                ·
                  first | rfl | omega | (simp; omega) | (simp [stepA, mLoad, mCas, badT, lowB, inW, allE, and2, h1, h2, h3, h4, h6, h11]; done) | (simp_all [stepA, mLoad, mCas, badT, lowB, inW, allE, and2]; done)
                ·
                  first | rfl | omega | (simp; omega) | (simp [stepA, mLoad, mCas, badT, lowB, inW, allE, and2, h1, h2, h3, h4, h6, h11]; done) | (simp_all [stepA, mLoad, mCas, badT, lowB, inW, allE, and2]; done)
                ·
                  first | rfl | omega | (simp; omega) | (simp [stepA, mLoad, mCas, badT, lowB, inW, allE, and2, h1, h2, h3, h4, h6, h11]; done) | (simp_all [stepA, mLoad, mCas, badT, lowB, inW, allE, and2]; done)
                ·
                  first | rfl | omega | (simp; omega) | (simp [stepA, mLoad, mCas, badT, lowB, inW, allE, and2, h1, h2, h3, h4, h6, h11]; done) | (simp_all [stepA, mLoad, mCas, badT, lowB, inW, allE, and2]; done)
                ·
                  first | rfl | omega | (simp; omega) | (simp [stepA, mLoad, mCas, badT, lowB, inW, allE, and2, h1, h2, h3, h4, h6, h11]; done) | (simp_all [stepA, mLoad, mCas, badT, lowB, inW, allE, and2]; done)
                ·
                  first | rfl | omega | (simp; omega) | (simp [stepA, mLoad, mCas, badT, lowB, inW, allE, and2, h1, h2, h3, h4, h6, h11]; done) | (simp_all [stepA, mLoad, mCas, badT, lowB, inW, allE, and2]; done)
                ·
                  first | rfl | omega | (simp; omega) | (simp [stepA, mLoad, mCas, badT, lowB, inW, allE, and2, h1, h2, h3, h4, h6, h11]; done) | (simp_all [stepA, mLoad, mCas, badT, lowB, inW, allE, and2]; done)
                ·
                  first | rfl | omega | (simp; omega) | (simp [stepA, mLoad, mCas, badT, lowB, inW, allE, and2, h1, h2, h3, h4, h6, h11]; done) | (simp_all [stepA, mLoad, mCas, badT, lowB, inW, allE, and2]; done)
                ·
                  first | rfl | omega | (simp; omega) | (simp [stepA, mLoad, mCas, badT, lowB, inW, allE, and2, h1, h2, h3, h4, h6, h11]; done) | (simp_all [stepA, mLoad, mCas, badT, lowB, inW, allE, and2]; done)
                ·
                  first | exact fun _ => rfl | omega | (simp; omega) | (simp [stepA, mLoad, mCas, badT, lowB, inW, allE, and2, h1, h2, h3, h4, h6, h11]; done) | (simp_all [stepA, mLoad, mCas, badT, lowB, inW, allE, and2]; done)
                ·
                  first | (apply Nat.ble_eq_true_of_le; omega) | (simp [Nat.blt_eq]; omega) | omega | (simp; omega) | (simp [stepA, mLoad, mCas, badT, lowB, inW, allE, and2, h1, h2, h3, h4, h6, h11]; done) | (simp_all [stepA, mLoad, mCas, badT, lowB, inW, allE, and2]; done)
      | false =>
        have hke : ii = k := by (rcases Nat.lt_or_ge ii k with q | q <;> first | (exfalso; have e := qk3 ii q; rw [← hs] at e; (try rw [h1]); (try rw [h2]); simp_all; done) | omega)
        subst hke
        (rw [← hs])
        refine round_exit (s0 := mvU m) (T := fun p : AvM × Nat => mvT p.1 p.2) (i := (x, ii)) (mvr_11 ..) (by simp) (ob_cons rfl (ob_cons rfl (ob_cons rfl (ob_cons rfl (ob_cons rfl (ob_cons rfl (ob_cons rfl (ob_cons rfl (ob_cons rfl (ob_cons rfl (ob_cons rfl (ob_cons rfl (ob_cons rfl (ob_cons rfl (ob_cons rfl (ob_cons rfl (ob_cons (fun _ => rfl) (ob_cons h2 (ob_cons h1 ob_nil)))))))))))))))))))
    | false =>
      have g1 := of_decide_eq_false h1
      try simp only [Int.ofNat_eq_natCast, ge_iff_le, gt_iff_lt, Int.not_lt, Int.not_le] at g1
      have hke : ii = k := by (rcases Nat.lt_or_ge ii k with q | q <;> first | (exfalso; have e := qk3 ii q; rw [← hs] at e; (try rw [h1]); simp_all; done) | omega)
      subst hke
      (rw [← hs])
      refine round_exit (s0 := mvU m) (T := fun p : AvM × Nat => mvT p.1 p.2) (i := (x, ii)) (mvr_12 ..) (by simp) (ob_cons rfl (ob_cons rfl (ob_cons rfl (ob_cons rfl (ob_cons rfl (ob_cons rfl (ob_cons rfl (ob_cons rfl (ob_cons rfl (ob_cons rfl (ob_cons rfl (ob_cons rfl (ob_cons rfl (ob_cons rfl (ob_cons rfl (ob_cons rfl (ob_cons (fun _ => rfl) (ob_cons h1 ob_nil))))))))))))))))))
theorem mv_loc (m : MS) : LocOk Try.prog 19 [.ptr 1 0 0] (msH m) (mvR m (mvN m)) := by
  refine loc_of_call EMo_ok (fun hp => ?_)
  have hN : mvN m < 100 := hp _ (List.mem_cons_self ..)
  clear hp
  rcases first_true (fun i => decide ((runA (av0 m) i).a.at_ = 0)) 100 with qno | ⟨k, hk, qk2, qk3⟩
  · exfalso; have := fnd_none qno; unfold mvN at hN; omega
  · have hkn : mvN m = k := fnd_eq hk qk2 qk3
    have hlp := mv_lp m k hk (of_decide_eq_true qk2) (fun i hi => of_decide_eq_false (qk3 i hi))
    unfold mvR
    rw [hkn]
    obtain ⟨x, hx⟩ : ∃ x, x = runA (av0 m) k := ⟨_, rfl⟩
    rw [← hx] at hlp ⊢
    clear hkn hN qk2 qk3 hx
    refine ⟨3000, _, _, _, mvc_1 m x k, (ob_cons rfl (ob_cons rfl (ob_cons rfl (ob_cons rfl (ob_cons rfl (ob_cons rfl (ob_cons rfl (ob_cons rfl (ob_cons rfl (ob_cons rfl (ob_cons (fun _ => rfl) (ob_cons ?_ ob_nil))))))))))))⟩
    ·
      first | trivial | exact hlp | omega
end Go.Proofs.Ytmhjecenmgbpeaa
