/-
  May an address be: the document's answer, the program's.
-/
import Derived.Test.YtlpcdjhojfopjaaGreatDoorZMemDef
set_option linter.unusedSimpArgs false
set_option linter.unusedVariables false
namespace Go.Proofs.YtlpcdjhojfopjaaGreatDoor
open Go.Ev
section
variable (k a f : Int)
theorem rmay_1 : callB EM0 2000 260 [AV.agg [AV.sym IntKind.u8 k, AV.sym IntKind.i64 a, AV.sym IntKind.i64 f]] [] (mayR k a f) [] [Hint.b true, Hint.b true, Hint.b true, Hint.b true, Hint.b true] =
 some ([decide (f < 2) = mayA k a f,
 decide (f ≥ 0) = true,
 decide (a < 32) = true,
 decide (a ≥ 0) = true,
 decide (k ≤ 11) = true,
 (k == 6) = true]) := by kernel_rfl
theorem rmay_2 : callB EM0 2000 260 [AV.agg [AV.sym IntKind.u8 k, AV.sym IntKind.i64 a, AV.sym IntKind.i64 f]] [] (mayR k a f) [] [Hint.b true, Hint.b true, Hint.b true, Hint.b true, Hint.b false] =
 some ([false = mayA k a f,
 decide (f ≥ 0) = false,
 decide (a < 32) = true,
 decide (a ≥ 0) = true,
 decide (k ≤ 11) = true,
 (k == 6) = true]) := by kernel_rfl
theorem rmay_3 : callB EM0 2000 260 [AV.agg [AV.sym IntKind.u8 k, AV.sym IntKind.i64 a, AV.sym IntKind.i64 f]] [] (mayR k a f) [] [Hint.b true, Hint.b true, Hint.b true, Hint.b false] =
 some ([false = mayA k a f,
 decide (a < 32) = false,
 decide (a ≥ 0) = true,
 decide (k ≤ 11) = true,
 (k == 6) = true]) := by kernel_rfl
theorem rmay_4 : callB EM0 2000 260 [AV.agg [AV.sym IntKind.u8 k, AV.sym IntKind.i64 a, AV.sym IntKind.i64 f]] [] (mayR k a f) [] [Hint.b true, Hint.b true, Hint.b false] =
 some ([false = mayA k a f,
 decide (a ≥ 0) = false,
 decide (k ≤ 11) = true,
 (k == 6) = true]) := by kernel_rfl
theorem rmay_5 : callB EM0 2000 260 [AV.agg [AV.sym IntKind.u8 k, AV.sym IntKind.i64 a, AV.sym IntKind.i64 f]] [] (mayR k a f) [] [Hint.b false, Hint.b true, Hint.b true, Hint.b true, Hint.b true, Hint.b true] =
 some ([decide (f < 1) = mayA k a f,
 decide (f ≥ 0) = true,
 decide (a < 4) = true,
 decide (a ≥ 0) = true,
 decide (k ≤ 11) = true,
 (k == 7) = true,
 (k == 6) = false]) := by kernel_rfl
theorem rmay_6 : callB EM0 2000 260 [AV.agg [AV.sym IntKind.u8 k, AV.sym IntKind.i64 a, AV.sym IntKind.i64 f]] [] (mayR k a f) [] [Hint.b false, Hint.b true, Hint.b true, Hint.b true, Hint.b true, Hint.b false] =
 some ([false = mayA k a f,
 decide (f ≥ 0) = false,
 decide (a < 4) = true,
 decide (a ≥ 0) = true,
 decide (k ≤ 11) = true,
 (k == 7) = true,
 (k == 6) = false]) := by kernel_rfl
theorem rmay_7 : callB EM0 2000 260 [AV.agg [AV.sym IntKind.u8 k, AV.sym IntKind.i64 a, AV.sym IntKind.i64 f]] [] (mayR k a f) [] [Hint.b false, Hint.b true, Hint.b true, Hint.b true, Hint.b false] =
 some ([false = mayA k a f,
 decide (a < 4) = false,
 decide (a ≥ 0) = true,
 decide (k ≤ 11) = true,
 (k == 7) = true,
 (k == 6) = false]) := by kernel_rfl
theorem rmay_8 : callB EM0 2000 260 [AV.agg [AV.sym IntKind.u8 k, AV.sym IntKind.i64 a, AV.sym IntKind.i64 f]] [] (mayR k a f) [] [Hint.b false, Hint.b true, Hint.b true, Hint.b false] =
 some ([false = mayA k a f,
 decide (a ≥ 0) = false,
 decide (k ≤ 11) = true,
 (k == 7) = true,
 (k == 6) = false]) := by kernel_rfl
theorem rmay_9 : callB EM0 2000 260 [AV.agg [AV.sym IntKind.u8 k, AV.sym IntKind.i64 a, AV.sym IntKind.i64 f]] [] (mayR k a f) [] [Hint.b false, Hint.b false, Hint.b true, Hint.b true, Hint.b true, Hint.b true, Hint.b true] =
 some ([decide (f < 10) = mayA k a f,
 decide (f ≥ 0) = true,
 decide (a < 16) = true,
 decide (a ≥ 0) = true,
 decide (k ≤ 11) = true,
 (k == 8) = true,
 (k == 7) = false,
 (k == 6) = false]) := by kernel_rfl
theorem rmay_10 : callB EM0 2000 260 [AV.agg [AV.sym IntKind.u8 k, AV.sym IntKind.i64 a, AV.sym IntKind.i64 f]] [] (mayR k a f) [] [Hint.b false, Hint.b false, Hint.b true, Hint.b true, Hint.b true, Hint.b true, Hint.b false] =
 some ([false = mayA k a f,
 decide (f ≥ 0) = false,
 decide (a < 16) = true,
 decide (a ≥ 0) = true,
 decide (k ≤ 11) = true,
 (k == 8) = true,
 (k == 7) = false,
 (k == 6) = false]) := by kernel_rfl
theorem rmay_11 : callB EM0 2000 260 [AV.agg [AV.sym IntKind.u8 k, AV.sym IntKind.i64 a, AV.sym IntKind.i64 f]] [] (mayR k a f) [] [Hint.b false, Hint.b false, Hint.b true, Hint.b true, Hint.b true, Hint.b false] =
 some ([false = mayA k a f,
 decide (a < 16) = false,
 decide (a ≥ 0) = true,
 decide (k ≤ 11) = true,
 (k == 8) = true,
 (k == 7) = false,
 (k == 6) = false]) := by kernel_rfl
theorem rmay_12 : callB EM0 2000 260 [AV.agg [AV.sym IntKind.u8 k, AV.sym IntKind.i64 a, AV.sym IntKind.i64 f]] [] (mayR k a f) [] [Hint.b false, Hint.b false, Hint.b true, Hint.b true, Hint.b false] =
 some ([false = mayA k a f,
 decide (a ≥ 0) = false,
 decide (k ≤ 11) = true,
 (k == 8) = true,
 (k == 7) = false,
 (k == 6) = false]) := by kernel_rfl
theorem rmay_13 : callB EM0 2000 260 [AV.agg [AV.sym IntKind.u8 k, AV.sym IntKind.i64 a, AV.sym IntKind.i64 f]] [] (mayR k a f) [] [Hint.b false, Hint.b false, Hint.b false, Hint.b true, Hint.b true, Hint.b true, Hint.b true, Hint.b true] =
 some ([decide (f < 8) = mayA k a f,
 decide (f ≥ 0) = true,
 decide (a < 256) = true,
 decide (a ≥ 0) = true,
 decide (k ≤ 11) = true,
 (k == 9) = true,
 (k == 8) = false,
 (k == 7) = false,
 (k == 6) = false]) := by kernel_rfl
theorem rmay_14 : callB EM0 2000 260 [AV.agg [AV.sym IntKind.u8 k, AV.sym IntKind.i64 a, AV.sym IntKind.i64 f]] [] (mayR k a f) [] [Hint.b false, Hint.b false, Hint.b false, Hint.b true, Hint.b true, Hint.b true, Hint.b true, Hint.b false] =
 some ([false = mayA k a f,
 decide (f ≥ 0) = false,
 decide (a < 256) = true,
 decide (a ≥ 0) = true,
 decide (k ≤ 11) = true,
 (k == 9) = true,
 (k == 8) = false,
 (k == 7) = false,
 (k == 6) = false]) := by kernel_rfl
theorem rmay_15 : callB EM0 2000 260 [AV.agg [AV.sym IntKind.u8 k, AV.sym IntKind.i64 a, AV.sym IntKind.i64 f]] [] (mayR k a f) [] [Hint.b false, Hint.b false, Hint.b false, Hint.b true, Hint.b true, Hint.b true, Hint.b false] =
 some ([false = mayA k a f,
 decide (a < 256) = false,
 decide (a ≥ 0) = true,
 decide (k ≤ 11) = true,
 (k == 9) = true,
 (k == 8) = false,
 (k == 7) = false,
 (k == 6) = false]) := by kernel_rfl
theorem rmay_16 : callB EM0 2000 260 [AV.agg [AV.sym IntKind.u8 k, AV.sym IntKind.i64 a, AV.sym IntKind.i64 f]] [] (mayR k a f) [] [Hint.b false, Hint.b false, Hint.b false, Hint.b true, Hint.b true, Hint.b false] =
 some ([false = mayA k a f,
 decide (a ≥ 0) = false,
 decide (k ≤ 11) = true,
 (k == 9) = true,
 (k == 8) = false,
 (k == 7) = false,
 (k == 6) = false]) := by kernel_rfl
theorem rmay_17 : callB EM0 2000 260 [AV.agg [AV.sym IntKind.u8 k, AV.sym IntKind.i64 a, AV.sym IntKind.i64 f]] [] (mayR k a f) [] [Hint.b false, Hint.b false, Hint.b false, Hint.b false, Hint.b true, Hint.b true, Hint.b true, Hint.b true, Hint.b true] =
 some ([decide (f < 1) = mayA k a f,
 decide (f ≥ 0) = true,
 decide (a < 9) = true,
 decide (a ≥ 0) = true,
 decide (k ≤ 11) = true,
 (k == 10) = true,
 (k == 9) = false,
 (k == 8) = false,
 (k == 7) = false,
 (k == 6) = false]) := by kernel_rfl
theorem rmay_18 : callB EM0 2000 260 [AV.agg [AV.sym IntKind.u8 k, AV.sym IntKind.i64 a, AV.sym IntKind.i64 f]] [] (mayR k a f) [] [Hint.b false, Hint.b false, Hint.b false, Hint.b false, Hint.b true, Hint.b true, Hint.b true, Hint.b true, Hint.b false] =
 some ([false = mayA k a f,
 decide (f ≥ 0) = false,
 decide (a < 9) = true,
 decide (a ≥ 0) = true,
 decide (k ≤ 11) = true,
 (k == 10) = true,
 (k == 9) = false,
 (k == 8) = false,
 (k == 7) = false,
 (k == 6) = false]) := by kernel_rfl
theorem rmay_19 : callB EM0 2000 260 [AV.agg [AV.sym IntKind.u8 k, AV.sym IntKind.i64 a, AV.sym IntKind.i64 f]] [] (mayR k a f) [] [Hint.b false, Hint.b false, Hint.b false, Hint.b false, Hint.b true, Hint.b true, Hint.b true, Hint.b false] =
 some ([false = mayA k a f,
 decide (a < 9) = false,
 decide (a ≥ 0) = true,
 decide (k ≤ 11) = true,
 (k == 10) = true,
 (k == 9) = false,
 (k == 8) = false,
 (k == 7) = false,
 (k == 6) = false]) := by kernel_rfl
theorem rmay_20 : callB EM0 2000 260 [AV.agg [AV.sym IntKind.u8 k, AV.sym IntKind.i64 a, AV.sym IntKind.i64 f]] [] (mayR k a f) [] [Hint.b false, Hint.b false, Hint.b false, Hint.b false, Hint.b true, Hint.b true, Hint.b false] =
 some ([false = mayA k a f,
 decide (a ≥ 0) = false,
 decide (k ≤ 11) = true,
 (k == 10) = true,
 (k == 9) = false,
 (k == 8) = false,
 (k == 7) = false,
 (k == 6) = false]) := by kernel_rfl
theorem rmay_21 : callB EM0 2000 260 [AV.agg [AV.sym IntKind.u8 k, AV.sym IntKind.i64 a, AV.sym IntKind.i64 f]] [] (mayR k a f) [] [Hint.b false, Hint.b false, Hint.b false, Hint.b false, Hint.b false, Hint.b true, Hint.b true, Hint.b true, Hint.b true, Hint.b true] =
 some ([decide (f < 2) = mayA k a f,
 decide (f ≥ 0) = true,
 decide (a < 1) = true,
 decide (a ≥ 0) = true,
 decide (k ≤ 11) = true,
 (k == 11) = true,
 (k == 10) = false,
 (k == 9) = false,
 (k == 8) = false,
 (k == 7) = false,
 (k == 6) = false]) := by kernel_rfl
theorem rmay_22 : callB EM0 2000 260 [AV.agg [AV.sym IntKind.u8 k, AV.sym IntKind.i64 a, AV.sym IntKind.i64 f]] [] (mayR k a f) [] [Hint.b false, Hint.b false, Hint.b false, Hint.b false, Hint.b false, Hint.b true, Hint.b true, Hint.b true, Hint.b true, Hint.b false] =
 some ([false = mayA k a f,
 decide (f ≥ 0) = false,
 decide (a < 1) = true,
 decide (a ≥ 0) = true,
 decide (k ≤ 11) = true,
 (k == 11) = true,
 (k == 10) = false,
 (k == 9) = false,
 (k == 8) = false,
 (k == 7) = false,
 (k == 6) = false]) := by kernel_rfl
theorem rmay_23 : callB EM0 2000 260 [AV.agg [AV.sym IntKind.u8 k, AV.sym IntKind.i64 a, AV.sym IntKind.i64 f]] [] (mayR k a f) [] [Hint.b false, Hint.b false, Hint.b false, Hint.b false, Hint.b false, Hint.b true, Hint.b true, Hint.b true, Hint.b false] =
 some ([false = mayA k a f,
 decide (a < 1) = false,
 decide (a ≥ 0) = true,
 decide (k ≤ 11) = true,
 (k == 11) = true,
 (k == 10) = false,
 (k == 9) = false,
 (k == 8) = false,
 (k == 7) = false,
 (k == 6) = false]) := by kernel_rfl
theorem rmay_24 : callB EM0 2000 260 [AV.agg [AV.sym IntKind.u8 k, AV.sym IntKind.i64 a, AV.sym IntKind.i64 f]] [] (mayR k a f) [] [Hint.b false, Hint.b false, Hint.b false, Hint.b false, Hint.b false, Hint.b true, Hint.b true, Hint.b false] =
 some ([false = mayA k a f,
 decide (a ≥ 0) = false,
 decide (k ≤ 11) = true,
 (k == 11) = true,
 (k == 10) = false,
 (k == 9) = false,
 (k == 8) = false,
 (k == 7) = false,
 (k == 6) = false]) := by kernel_rfl
theorem rmay_25 : callB EM0 2000 260 [AV.agg [AV.sym IntKind.u8 k, AV.sym IntKind.i64 a, AV.sym IntKind.i64 f]] [] (mayR k a f) [] [Hint.b false, Hint.b false, Hint.b false, Hint.b false, Hint.b false, Hint.b false, Hint.b true, Hint.b true, Hint.b true, Hint.b true] =
 some ([decide (f < 1) = mayA k a f,
 decide (f ≥ 0) = true,
 decide (a < 1) = true,
 decide (a ≥ 0) = true,
 decide (k ≤ 11) = true,
 (k == 11) = false,
 (k == 10) = false,
 (k == 9) = false,
 (k == 8) = false,
 (k == 7) = false,
 (k == 6) = false]) := by kernel_rfl
theorem rmay_26 : callB EM0 2000 260 [AV.agg [AV.sym IntKind.u8 k, AV.sym IntKind.i64 a, AV.sym IntKind.i64 f]] [] (mayR k a f) [] [Hint.b false, Hint.b false, Hint.b false, Hint.b false, Hint.b false, Hint.b false, Hint.b true, Hint.b true, Hint.b true, Hint.b false] =
 some ([false = mayA k a f,
 decide (f ≥ 0) = false,
 decide (a < 1) = true,
 decide (a ≥ 0) = true,
 decide (k ≤ 11) = true,
 (k == 11) = false,
 (k == 10) = false,
 (k == 9) = false,
 (k == 8) = false,
 (k == 7) = false,
 (k == 6) = false]) := by kernel_rfl
theorem rmay_27 : callB EM0 2000 260 [AV.agg [AV.sym IntKind.u8 k, AV.sym IntKind.i64 a, AV.sym IntKind.i64 f]] [] (mayR k a f) [] [Hint.b false, Hint.b false, Hint.b false, Hint.b false, Hint.b false, Hint.b false, Hint.b true, Hint.b true, Hint.b false] =
 some ([false = mayA k a f,
 decide (a < 1) = false,
 decide (a ≥ 0) = true,
 decide (k ≤ 11) = true,
 (k == 11) = false,
 (k == 10) = false,
 (k == 9) = false,
 (k == 8) = false,
 (k == 7) = false,
 (k == 6) = false]) := by kernel_rfl
theorem rmay_28 : callB EM0 2000 260 [AV.agg [AV.sym IntKind.u8 k, AV.sym IntKind.i64 a, AV.sym IntKind.i64 f]] [] (mayR k a f) [] [Hint.b false, Hint.b false, Hint.b false, Hint.b false, Hint.b false, Hint.b false, Hint.b true, Hint.b false] =
 some ([false = mayA k a f,
 decide (a ≥ 0) = false,
 decide (k ≤ 11) = true,
 (k == 11) = false,
 (k == 10) = false,
 (k == 9) = false,
 (k == 8) = false,
 (k == 7) = false,
 (k == 6) = false]) := by kernel_rfl
theorem rmay_29 : callB EM0 2000 260 [AV.agg [AV.sym IntKind.u8 k, AV.sym IntKind.i64 a, AV.sym IntKind.i64 f]] [] (mayR k a f) [] [Hint.b false, Hint.b false, Hint.b false, Hint.b false, Hint.b false, Hint.b false, Hint.b false] =
 some ([false = mayA k a f,
 decide (k ≤ 11) = false,
 (k == 11) = false,
 (k == 10) = false,
 (k == 9) = false,
 (k == 8) = false,
 (k == 7) = false,
 (k == 6) = false]) := by kernel_rfl
theorem mmay_1 : callB EM0 2000 259 [AV.agg [AV.sym IntKind.u8 k, AV.sym IntKind.i64 a, AV.sym IntKind.i64 f]] [] (mayR k a f) [] [Hint.b true, Hint.b true, Hint.b true, Hint.b true, Hint.b true] =
 some ([decide (f < 1) = mayA k a f,
 decide (f ≥ 0) = true,
 decide (a < 1) = true,
 decide (a ≥ 0) = true,
 (k == 0) = true,
 (k == 0) = true]) := by kernel_rfl
theorem mmay_2 : callB EM0 2000 259 [AV.agg [AV.sym IntKind.u8 k, AV.sym IntKind.i64 a, AV.sym IntKind.i64 f]] [] (mayR k a f) [] [Hint.b true, Hint.b true, Hint.b true, Hint.b true, Hint.b false] =
 some ([false = mayA k a f,
 decide (f ≥ 0) = false,
 decide (a < 1) = true,
 decide (a ≥ 0) = true,
 (k == 0) = true,
 (k == 0) = true]) := by kernel_rfl
theorem mmay_3 : callB EM0 2000 259 [AV.agg [AV.sym IntKind.u8 k, AV.sym IntKind.i64 a, AV.sym IntKind.i64 f]] [] (mayR k a f) [] [Hint.b true, Hint.b true, Hint.b true, Hint.b false] =
 some ([false = mayA k a f,
 decide (a < 1) = false,
 decide (a ≥ 0) = true,
 (k == 0) = true,
 (k == 0) = true]) := by kernel_rfl
theorem mmay_4 : callB EM0 2000 259 [AV.agg [AV.sym IntKind.u8 k, AV.sym IntKind.i64 a, AV.sym IntKind.i64 f]] [] (mayR k a f) [] [Hint.b true, Hint.b true, Hint.b false] =
 some ([false = mayA k a f,
 decide (a ≥ 0) = false,
 (k == 0) = true,
 (k == 0) = true]) := by kernel_rfl
theorem mmay_5 : callB EM0 2000 259 [AV.agg [AV.sym IntKind.u8 k, AV.sym IntKind.i64 a, AV.sym IntKind.i64 f]] [] (mayR k a f) [] [Hint.b false, Hint.b true, Hint.b true, Hint.b true, Hint.b true, Hint.b true] =
 some ([decide (f < 1) = mayA k a f,
 decide (f ≥ 0) = true,
 decide (a < 1) = true,
 decide (a ≥ 0) = true,
 (k == 1) = true,
 (k == 1) = true,
 (k == 0) = false]) := by kernel_rfl
theorem mmay_6 : callB EM0 2000 259 [AV.agg [AV.sym IntKind.u8 k, AV.sym IntKind.i64 a, AV.sym IntKind.i64 f]] [] (mayR k a f) [] [Hint.b false, Hint.b true, Hint.b true, Hint.b true, Hint.b true, Hint.b false] =
 some ([false = mayA k a f,
 decide (f ≥ 0) = false,
 decide (a < 1) = true,
 decide (a ≥ 0) = true,
 (k == 1) = true,
 (k == 1) = true,
 (k == 0) = false]) := by kernel_rfl
theorem mmay_7 : callB EM0 2000 259 [AV.agg [AV.sym IntKind.u8 k, AV.sym IntKind.i64 a, AV.sym IntKind.i64 f]] [] (mayR k a f) [] [Hint.b false, Hint.b true, Hint.b true, Hint.b true, Hint.b false] =
 some ([false = mayA k a f,
 decide (a < 1) = false,
 decide (a ≥ 0) = true,
 (k == 1) = true,
 (k == 1) = true,
 (k == 0) = false]) := by kernel_rfl
theorem mmay_8 : callB EM0 2000 259 [AV.agg [AV.sym IntKind.u8 k, AV.sym IntKind.i64 a, AV.sym IntKind.i64 f]] [] (mayR k a f) [] [Hint.b false, Hint.b true, Hint.b true, Hint.b false] =
 some ([false = mayA k a f,
 decide (a ≥ 0) = false,
 (k == 1) = true,
 (k == 1) = true,
 (k == 0) = false]) := by kernel_rfl
theorem mmay_9 : callB EM0 2000 259 [AV.agg [AV.sym IntKind.u8 k, AV.sym IntKind.i64 a, AV.sym IntKind.i64 f]] [] (mayR k a f) [] [Hint.b false, Hint.b false, Hint.b true, Hint.b true, Hint.b true, Hint.b true, Hint.b true] =
 some ([decide (f < 1) = mayA k a f,
 decide (f ≥ 0) = true,
 decide (a < 1) = true,
 decide (a ≥ 0) = true,
 (k == 2) = true,
 (k == 2) = true,
 (k == 1) = false,
 (k == 0) = false]) := by kernel_rfl
theorem mmay_10 : callB EM0 2000 259 [AV.agg [AV.sym IntKind.u8 k, AV.sym IntKind.i64 a, AV.sym IntKind.i64 f]] [] (mayR k a f) [] [Hint.b false, Hint.b false, Hint.b true, Hint.b true, Hint.b true, Hint.b true, Hint.b false] =
 some ([false = mayA k a f,
 decide (f ≥ 0) = false,
 decide (a < 1) = true,
 decide (a ≥ 0) = true,
 (k == 2) = true,
 (k == 2) = true,
 (k == 1) = false,
 (k == 0) = false]) := by kernel_rfl
theorem mmay_11 : callB EM0 2000 259 [AV.agg [AV.sym IntKind.u8 k, AV.sym IntKind.i64 a, AV.sym IntKind.i64 f]] [] (mayR k a f) [] [Hint.b false, Hint.b false, Hint.b true, Hint.b true, Hint.b true, Hint.b false] =
 some ([false = mayA k a f,
 decide (a < 1) = false,
 decide (a ≥ 0) = true,
 (k == 2) = true,
 (k == 2) = true,
 (k == 1) = false,
 (k == 0) = false]) := by kernel_rfl
theorem mmay_12 : callB EM0 2000 259 [AV.agg [AV.sym IntKind.u8 k, AV.sym IntKind.i64 a, AV.sym IntKind.i64 f]] [] (mayR k a f) [] [Hint.b false, Hint.b false, Hint.b true, Hint.b true, Hint.b false] =
 some ([false = mayA k a f,
 decide (a ≥ 0) = false,
 (k == 2) = true,
 (k == 2) = true,
 (k == 1) = false,
 (k == 0) = false]) := by kernel_rfl
theorem mmay_13 : callB EM0 2000 259 [AV.agg [AV.sym IntKind.u8 k, AV.sym IntKind.i64 a, AV.sym IntKind.i64 f]] [] (mayR k a f) [] [Hint.b false, Hint.b false, Hint.b false, Hint.b true, Hint.b true, Hint.b true, Hint.b true, Hint.b true] =
 some ([decide (f < 1) = mayA k a f,
 decide (f ≥ 0) = true,
 decide (a < 1) = true,
 decide (a ≥ 0) = true,
 (k == 3) = true,
 (k == 3) = true,
 (k == 2) = false,
 (k == 1) = false,
 (k == 0) = false]) := by kernel_rfl
theorem mmay_14 : callB EM0 2000 259 [AV.agg [AV.sym IntKind.u8 k, AV.sym IntKind.i64 a, AV.sym IntKind.i64 f]] [] (mayR k a f) [] [Hint.b false, Hint.b false, Hint.b false, Hint.b true, Hint.b true, Hint.b true, Hint.b true, Hint.b false] =
 some ([false = mayA k a f,
 decide (f ≥ 0) = false,
 decide (a < 1) = true,
 decide (a ≥ 0) = true,
 (k == 3) = true,
 (k == 3) = true,
 (k == 2) = false,
 (k == 1) = false,
 (k == 0) = false]) := by kernel_rfl
theorem mmay_15 : callB EM0 2000 259 [AV.agg [AV.sym IntKind.u8 k, AV.sym IntKind.i64 a, AV.sym IntKind.i64 f]] [] (mayR k a f) [] [Hint.b false, Hint.b false, Hint.b false, Hint.b true, Hint.b true, Hint.b true, Hint.b false] =
 some ([false = mayA k a f,
 decide (a < 1) = false,
 decide (a ≥ 0) = true,
 (k == 3) = true,
 (k == 3) = true,
 (k == 2) = false,
 (k == 1) = false,
 (k == 0) = false]) := by kernel_rfl
theorem mmay_16 : callB EM0 2000 259 [AV.agg [AV.sym IntKind.u8 k, AV.sym IntKind.i64 a, AV.sym IntKind.i64 f]] [] (mayR k a f) [] [Hint.b false, Hint.b false, Hint.b false, Hint.b true, Hint.b true, Hint.b false] =
 some ([false = mayA k a f,
 decide (a ≥ 0) = false,
 (k == 3) = true,
 (k == 3) = true,
 (k == 2) = false,
 (k == 1) = false,
 (k == 0) = false]) := by kernel_rfl
theorem mmay_17 : callB EM0 2000 259 [AV.agg [AV.sym IntKind.u8 k, AV.sym IntKind.i64 a, AV.sym IntKind.i64 f]] [] (mayR k a f) [] [Hint.b false, Hint.b false, Hint.b false, Hint.b false, Hint.b true, Hint.b true, Hint.b true, Hint.b true, Hint.b true] =
 some ([decide (f < 1) = mayA k a f,
 decide (f ≥ 0) = true,
 decide (a < 1) = true,
 decide (a ≥ 0) = true,
 (k == 4) = true,
 (k == 4) = true,
 (k == 3) = false,
 (k == 2) = false,
 (k == 1) = false,
 (k == 0) = false]) := by kernel_rfl
theorem mmay_18 : callB EM0 2000 259 [AV.agg [AV.sym IntKind.u8 k, AV.sym IntKind.i64 a, AV.sym IntKind.i64 f]] [] (mayR k a f) [] [Hint.b false, Hint.b false, Hint.b false, Hint.b false, Hint.b true, Hint.b true, Hint.b true, Hint.b true, Hint.b false] =
 some ([false = mayA k a f,
 decide (f ≥ 0) = false,
 decide (a < 1) = true,
 decide (a ≥ 0) = true,
 (k == 4) = true,
 (k == 4) = true,
 (k == 3) = false,
 (k == 2) = false,
 (k == 1) = false,
 (k == 0) = false]) := by kernel_rfl
theorem mmay_19 : callB EM0 2000 259 [AV.agg [AV.sym IntKind.u8 k, AV.sym IntKind.i64 a, AV.sym IntKind.i64 f]] [] (mayR k a f) [] [Hint.b false, Hint.b false, Hint.b false, Hint.b false, Hint.b true, Hint.b true, Hint.b true, Hint.b false] =
 some ([false = mayA k a f,
 decide (a < 1) = false,
 decide (a ≥ 0) = true,
 (k == 4) = true,
 (k == 4) = true,
 (k == 3) = false,
 (k == 2) = false,
 (k == 1) = false,
 (k == 0) = false]) := by kernel_rfl
theorem mmay_20 : callB EM0 2000 259 [AV.agg [AV.sym IntKind.u8 k, AV.sym IntKind.i64 a, AV.sym IntKind.i64 f]] [] (mayR k a f) [] [Hint.b false, Hint.b false, Hint.b false, Hint.b false, Hint.b true, Hint.b true, Hint.b false] =
 some ([false = mayA k a f,
 decide (a ≥ 0) = false,
 (k == 4) = true,
 (k == 4) = true,
 (k == 3) = false,
 (k == 2) = false,
 (k == 1) = false,
 (k == 0) = false]) := by kernel_rfl
theorem mmay_21 : callB EM0 2000 259 [AV.agg [AV.sym IntKind.u8 k, AV.sym IntKind.i64 a, AV.sym IntKind.i64 f]] [] (mayR k a f) [] [Hint.b false, Hint.b false, Hint.b false, Hint.b false, Hint.b false, Hint.b true, Hint.b true, Hint.b true, Hint.b true] =
 some ([decide (f < 1) = mayA k a f,
 decide (f ≥ 0) = true,
 decide (a < 1) = true,
 decide (a ≥ 0) = true,
 (k == 5) = true,
 (k == 4) = false,
 (k == 3) = false,
 (k == 2) = false,
 (k == 1) = false,
 (k == 0) = false]) := by kernel_rfl
theorem mmay_22 : callB EM0 2000 259 [AV.agg [AV.sym IntKind.u8 k, AV.sym IntKind.i64 a, AV.sym IntKind.i64 f]] [] (mayR k a f) [] [Hint.b false, Hint.b false, Hint.b false, Hint.b false, Hint.b false, Hint.b true, Hint.b true, Hint.b true, Hint.b false] =
 some ([false = mayA k a f,
 decide (f ≥ 0) = false,
 decide (a < 1) = true,
 decide (a ≥ 0) = true,
 (k == 5) = true,
 (k == 4) = false,
 (k == 3) = false,
 (k == 2) = false,
 (k == 1) = false,
 (k == 0) = false]) := by kernel_rfl
theorem mmay_23 : callB EM0 2000 259 [AV.agg [AV.sym IntKind.u8 k, AV.sym IntKind.i64 a, AV.sym IntKind.i64 f]] [] (mayR k a f) [] [Hint.b false, Hint.b false, Hint.b false, Hint.b false, Hint.b false, Hint.b true, Hint.b true, Hint.b false] =
 some ([false = mayA k a f,
 decide (a < 1) = false,
 decide (a ≥ 0) = true,
 (k == 5) = true,
 (k == 4) = false,
 (k == 3) = false,
 (k == 2) = false,
 (k == 1) = false,
 (k == 0) = false]) := by kernel_rfl
theorem mmay_24 : callB EM0 2000 259 [AV.agg [AV.sym IntKind.u8 k, AV.sym IntKind.i64 a, AV.sym IntKind.i64 f]] [] (mayR k a f) [] [Hint.b false, Hint.b false, Hint.b false, Hint.b false, Hint.b false, Hint.b true, Hint.b false] =
 some ([false = mayA k a f,
 decide (a ≥ 0) = false,
 (k == 5) = true,
 (k == 4) = false,
 (k == 3) = false,
 (k == 2) = false,
 (k == 1) = false,
 (k == 0) = false]) := by kernel_rfl
theorem mmay_25 : callB EM0 2000 259 [AV.agg [AV.sym IntKind.u8 k, AV.sym IntKind.i64 a, AV.sym IntKind.i64 f]] [] (mayR k a f) [] [Hint.b false, Hint.b false, Hint.b false, Hint.b false, Hint.b false, Hint.b false, Hint.b true, Hint.b true, Hint.b true, Hint.b true] =
 some ([decide (f < 2) = mayA k a f,
 decide (f ≥ 0) = true,
 decide (a < 32) = true,
 decide (a ≥ 0) = true,
 (k == 6) = true,
 (k == 5) = false,
 (k == 4) = false,
 (k == 3) = false,
 (k == 2) = false,
 (k == 1) = false,
 (k == 0) = false]) := by kernel_rfl
theorem mmay_26 : callB EM0 2000 259 [AV.agg [AV.sym IntKind.u8 k, AV.sym IntKind.i64 a, AV.sym IntKind.i64 f]] [] (mayR k a f) [] [Hint.b false, Hint.b false, Hint.b false, Hint.b false, Hint.b false, Hint.b false, Hint.b true, Hint.b true, Hint.b true, Hint.b false] =
 some ([false = mayA k a f,
 decide (f ≥ 0) = false,
 decide (a < 32) = true,
 decide (a ≥ 0) = true,
 (k == 6) = true,
 (k == 5) = false,
 (k == 4) = false,
 (k == 3) = false,
 (k == 2) = false,
 (k == 1) = false,
 (k == 0) = false]) := by kernel_rfl
theorem mmay_27 : callB EM0 2000 259 [AV.agg [AV.sym IntKind.u8 k, AV.sym IntKind.i64 a, AV.sym IntKind.i64 f]] [] (mayR k a f) [] [Hint.b false, Hint.b false, Hint.b false, Hint.b false, Hint.b false, Hint.b false, Hint.b true, Hint.b true, Hint.b false] =
 some ([false = mayA k a f,
 decide (a < 32) = false,
 decide (a ≥ 0) = true,
 (k == 6) = true,
 (k == 5) = false,
 (k == 4) = false,
 (k == 3) = false,
 (k == 2) = false,
 (k == 1) = false,
 (k == 0) = false]) := by kernel_rfl
theorem mmay_28 : callB EM0 2000 259 [AV.agg [AV.sym IntKind.u8 k, AV.sym IntKind.i64 a, AV.sym IntKind.i64 f]] [] (mayR k a f) [] [Hint.b false, Hint.b false, Hint.b false, Hint.b false, Hint.b false, Hint.b false, Hint.b true, Hint.b false] =
 some ([false = mayA k a f,
 decide (a ≥ 0) = false,
 (k == 6) = true,
 (k == 5) = false,
 (k == 4) = false,
 (k == 3) = false,
 (k == 2) = false,
 (k == 1) = false,
 (k == 0) = false]) := by kernel_rfl
theorem mmay_29 : callB EM0 2000 259 [AV.agg [AV.sym IntKind.u8 k, AV.sym IntKind.i64 a, AV.sym IntKind.i64 f]] [] (mayR k a f) [] [Hint.b false, Hint.b false, Hint.b false, Hint.b false, Hint.b false, Hint.b false, Hint.b false, Hint.b true, Hint.b true, Hint.b true, Hint.b true] =
 some ([decide (f < 1) = mayA k a f,
 decide (f ≥ 0) = true,
 decide (a < 4) = true,
 decide (a ≥ 0) = true,
 (k == 7) = true,
 (k == 6) = false,
 (k == 5) = false,
 (k == 4) = false,
 (k == 3) = false,
 (k == 2) = false,
 (k == 1) = false,
 (k == 0) = false]) := by kernel_rfl
theorem mmay_30 : callB EM0 2000 259 [AV.agg [AV.sym IntKind.u8 k, AV.sym IntKind.i64 a, AV.sym IntKind.i64 f]] [] (mayR k a f) [] [Hint.b false, Hint.b false, Hint.b false, Hint.b false, Hint.b false, Hint.b false, Hint.b false, Hint.b true, Hint.b true, Hint.b true, Hint.b false] =
 some ([false = mayA k a f,
 decide (f ≥ 0) = false,
 decide (a < 4) = true,
 decide (a ≥ 0) = true,
 (k == 7) = true,
 (k == 6) = false,
 (k == 5) = false,
 (k == 4) = false,
 (k == 3) = false,
 (k == 2) = false,
 (k == 1) = false,
 (k == 0) = false]) := by kernel_rfl
theorem mmay_31 : callB EM0 2000 259 [AV.agg [AV.sym IntKind.u8 k, AV.sym IntKind.i64 a, AV.sym IntKind.i64 f]] [] (mayR k a f) [] [Hint.b false, Hint.b false, Hint.b false, Hint.b false, Hint.b false, Hint.b false, Hint.b false, Hint.b true, Hint.b true, Hint.b false] =
 some ([false = mayA k a f,
 decide (a < 4) = false,
 decide (a ≥ 0) = true,
 (k == 7) = true,
 (k == 6) = false,
 (k == 5) = false,
 (k == 4) = false,
 (k == 3) = false,
 (k == 2) = false,
 (k == 1) = false,
 (k == 0) = false]) := by kernel_rfl
theorem mmay_32 : callB EM0 2000 259 [AV.agg [AV.sym IntKind.u8 k, AV.sym IntKind.i64 a, AV.sym IntKind.i64 f]] [] (mayR k a f) [] [Hint.b false, Hint.b false, Hint.b false, Hint.b false, Hint.b false, Hint.b false, Hint.b false, Hint.b true, Hint.b false] =
 some ([false = mayA k a f,
 decide (a ≥ 0) = false,
 (k == 7) = true,
 (k == 6) = false,
 (k == 5) = false,
 (k == 4) = false,
 (k == 3) = false,
 (k == 2) = false,
 (k == 1) = false,
 (k == 0) = false]) := by kernel_rfl
theorem mmay_33 : callB EM0 2000 259 [AV.agg [AV.sym IntKind.u8 k, AV.sym IntKind.i64 a, AV.sym IntKind.i64 f]] [] (mayR k a f) [] [Hint.b false, Hint.b false, Hint.b false, Hint.b false, Hint.b false, Hint.b false, Hint.b false, Hint.b false, Hint.b true, Hint.b true, Hint.b true, Hint.b true] =
 some ([decide (f < 10) = mayA k a f,
 decide (f ≥ 0) = true,
 decide (a < 16) = true,
 decide (a ≥ 0) = true,
 (k == 8) = true,
 (k == 7) = false,
 (k == 6) = false,
 (k == 5) = false,
 (k == 4) = false,
 (k == 3) = false,
 (k == 2) = false,
 (k == 1) = false,
 (k == 0) = false]) := by kernel_rfl
theorem mmay_34 : callB EM0 2000 259 [AV.agg [AV.sym IntKind.u8 k, AV.sym IntKind.i64 a, AV.sym IntKind.i64 f]] [] (mayR k a f) [] [Hint.b false, Hint.b false, Hint.b false, Hint.b false, Hint.b false, Hint.b false, Hint.b false, Hint.b false, Hint.b true, Hint.b true, Hint.b true, Hint.b false] =
 some ([false = mayA k a f,
 decide (f ≥ 0) = false,
 decide (a < 16) = true,
 decide (a ≥ 0) = true,
 (k == 8) = true,
 (k == 7) = false,
 (k == 6) = false,
 (k == 5) = false,
 (k == 4) = false,
 (k == 3) = false,
 (k == 2) = false,
 (k == 1) = false,
 (k == 0) = false]) := by kernel_rfl
theorem mmay_35 : callB EM0 2000 259 [AV.agg [AV.sym IntKind.u8 k, AV.sym IntKind.i64 a, AV.sym IntKind.i64 f]] [] (mayR k a f) [] [Hint.b false, Hint.b false, Hint.b false, Hint.b false, Hint.b false, Hint.b false, Hint.b false, Hint.b false, Hint.b true, Hint.b true, Hint.b false] =
 some ([false = mayA k a f,
 decide (a < 16) = false,
 decide (a ≥ 0) = true,
 (k == 8) = true,
 (k == 7) = false,
 (k == 6) = false,
 (k == 5) = false,
 (k == 4) = false,
 (k == 3) = false,
 (k == 2) = false,
 (k == 1) = false,
 (k == 0) = false]) := by kernel_rfl
theorem mmay_36 : callB EM0 2000 259 [AV.agg [AV.sym IntKind.u8 k, AV.sym IntKind.i64 a, AV.sym IntKind.i64 f]] [] (mayR k a f) [] [Hint.b false, Hint.b false, Hint.b false, Hint.b false, Hint.b false, Hint.b false, Hint.b false, Hint.b false, Hint.b true, Hint.b false] =
 some ([false = mayA k a f,
 decide (a ≥ 0) = false,
 (k == 8) = true,
 (k == 7) = false,
 (k == 6) = false,
 (k == 5) = false,
 (k == 4) = false,
 (k == 3) = false,
 (k == 2) = false,
 (k == 1) = false,
 (k == 0) = false]) := by kernel_rfl
theorem mmay_37 : callB EM0 2000 259 [AV.agg [AV.sym IntKind.u8 k, AV.sym IntKind.i64 a, AV.sym IntKind.i64 f]] [] (mayR k a f) [] [Hint.b false, Hint.b false, Hint.b false, Hint.b false, Hint.b false, Hint.b false, Hint.b false, Hint.b false, Hint.b false, Hint.b true, Hint.b true, Hint.b true, Hint.b true] =
 some ([decide (f < 8) = mayA k a f,
 decide (f ≥ 0) = true,
 decide (a < 256) = true,
 decide (a ≥ 0) = true,
 (k == 9) = true,
 (k == 8) = false,
 (k == 7) = false,
 (k == 6) = false,
 (k == 5) = false,
 (k == 4) = false,
 (k == 3) = false,
 (k == 2) = false,
 (k == 1) = false,
 (k == 0) = false]) := by kernel_rfl
theorem mmay_38 : callB EM0 2000 259 [AV.agg [AV.sym IntKind.u8 k, AV.sym IntKind.i64 a, AV.sym IntKind.i64 f]] [] (mayR k a f) [] [Hint.b false, Hint.b false, Hint.b false, Hint.b false, Hint.b false, Hint.b false, Hint.b false, Hint.b false, Hint.b false, Hint.b true, Hint.b true, Hint.b true, Hint.b false] =
 some ([false = mayA k a f,
 decide (f ≥ 0) = false,
 decide (a < 256) = true,
 decide (a ≥ 0) = true,
 (k == 9) = true,
 (k == 8) = false,
 (k == 7) = false,
 (k == 6) = false,
 (k == 5) = false,
 (k == 4) = false,
 (k == 3) = false,
 (k == 2) = false,
 (k == 1) = false,
 (k == 0) = false]) := by kernel_rfl
theorem mmay_39 : callB EM0 2000 259 [AV.agg [AV.sym IntKind.u8 k, AV.sym IntKind.i64 a, AV.sym IntKind.i64 f]] [] (mayR k a f) [] [Hint.b false, Hint.b false, Hint.b false, Hint.b false, Hint.b false, Hint.b false, Hint.b false, Hint.b false, Hint.b false, Hint.b true, Hint.b true, Hint.b false] =
 some ([false = mayA k a f,
 decide (a < 256) = false,
 decide (a ≥ 0) = true,
 (k == 9) = true,
 (k == 8) = false,
 (k == 7) = false,
 (k == 6) = false,
 (k == 5) = false,
 (k == 4) = false,
 (k == 3) = false,
 (k == 2) = false,
 (k == 1) = false,
 (k == 0) = false]) := by kernel_rfl
theorem mmay_40 : callB EM0 2000 259 [AV.agg [AV.sym IntKind.u8 k, AV.sym IntKind.i64 a, AV.sym IntKind.i64 f]] [] (mayR k a f) [] [Hint.b false, Hint.b false, Hint.b false, Hint.b false, Hint.b false, Hint.b false, Hint.b false, Hint.b false, Hint.b false, Hint.b true, Hint.b false] =
 some ([false = mayA k a f,
 decide (a ≥ 0) = false,
 (k == 9) = true,
 (k == 8) = false,
 (k == 7) = false,
 (k == 6) = false,
 (k == 5) = false,
 (k == 4) = false,
 (k == 3) = false,
 (k == 2) = false,
 (k == 1) = false,
 (k == 0) = false]) := by kernel_rfl
theorem mmay_41 : callB EM0 2000 259 [AV.agg [AV.sym IntKind.u8 k, AV.sym IntKind.i64 a, AV.sym IntKind.i64 f]] [] (mayR k a f) [] [Hint.b false, Hint.b false, Hint.b false, Hint.b false, Hint.b false, Hint.b false, Hint.b false, Hint.b false, Hint.b false, Hint.b false, Hint.b true, Hint.b true, Hint.b true, Hint.b true] =
 some ([decide (f < 1) = mayA k a f,
 decide (f ≥ 0) = true,
 decide (a < 9) = true,
 decide (a ≥ 0) = true,
 (k == 10) = true,
 (k == 9) = false,
 (k == 8) = false,
 (k == 7) = false,
 (k == 6) = false,
 (k == 5) = false,
 (k == 4) = false,
 (k == 3) = false,
 (k == 2) = false,
 (k == 1) = false,
 (k == 0) = false]) := by kernel_rfl
theorem mmay_42 : callB EM0 2000 259 [AV.agg [AV.sym IntKind.u8 k, AV.sym IntKind.i64 a, AV.sym IntKind.i64 f]] [] (mayR k a f) [] [Hint.b false, Hint.b false, Hint.b false, Hint.b false, Hint.b false, Hint.b false, Hint.b false, Hint.b false, Hint.b false, Hint.b false, Hint.b true, Hint.b true, Hint.b true, Hint.b false] =
 some ([false = mayA k a f,
 decide (f ≥ 0) = false,
 decide (a < 9) = true,
 decide (a ≥ 0) = true,
 (k == 10) = true,
 (k == 9) = false,
 (k == 8) = false,
 (k == 7) = false,
 (k == 6) = false,
 (k == 5) = false,
 (k == 4) = false,
 (k == 3) = false,
 (k == 2) = false,
 (k == 1) = false,
 (k == 0) = false]) := by kernel_rfl
theorem mmay_43 : callB EM0 2000 259 [AV.agg [AV.sym IntKind.u8 k, AV.sym IntKind.i64 a, AV.sym IntKind.i64 f]] [] (mayR k a f) [] [Hint.b false, Hint.b false, Hint.b false, Hint.b false, Hint.b false, Hint.b false, Hint.b false, Hint.b false, Hint.b false, Hint.b false, Hint.b true, Hint.b true, Hint.b false] =
 some ([false = mayA k a f,
 decide (a < 9) = false,
 decide (a ≥ 0) = true,
 (k == 10) = true,
 (k == 9) = false,
 (k == 8) = false,
 (k == 7) = false,
 (k == 6) = false,
 (k == 5) = false,
 (k == 4) = false,
 (k == 3) = false,
 (k == 2) = false,
 (k == 1) = false,
 (k == 0) = false]) := by kernel_rfl
theorem mmay_44 : callB EM0 2000 259 [AV.agg [AV.sym IntKind.u8 k, AV.sym IntKind.i64 a, AV.sym IntKind.i64 f]] [] (mayR k a f) [] [Hint.b false, Hint.b false, Hint.b false, Hint.b false, Hint.b false, Hint.b false, Hint.b false, Hint.b false, Hint.b false, Hint.b false, Hint.b true, Hint.b false] =
 some ([false = mayA k a f,
 decide (a ≥ 0) = false,
 (k == 10) = true,
 (k == 9) = false,
 (k == 8) = false,
 (k == 7) = false,
 (k == 6) = false,
 (k == 5) = false,
 (k == 4) = false,
 (k == 3) = false,
 (k == 2) = false,
 (k == 1) = false,
 (k == 0) = false]) := by kernel_rfl
theorem mmay_45 : callB EM0 2000 259 [AV.agg [AV.sym IntKind.u8 k, AV.sym IntKind.i64 a, AV.sym IntKind.i64 f]] [] (mayR k a f) [] [Hint.b false, Hint.b false, Hint.b false, Hint.b false, Hint.b false, Hint.b false, Hint.b false, Hint.b false, Hint.b false, Hint.b false, Hint.b false, Hint.b true, Hint.b true, Hint.b true, Hint.b true] =
 some ([decide (f < 2) = mayA k a f,
 decide (f ≥ 0) = true,
 decide (a < 1) = true,
 decide (a ≥ 0) = true,
 (k == 11) = true,
 (k == 10) = false,
 (k == 9) = false,
 (k == 8) = false,
 (k == 7) = false,
 (k == 6) = false,
 (k == 5) = false,
 (k == 4) = false,
 (k == 3) = false,
 (k == 2) = false,
 (k == 1) = false,
 (k == 0) = false]) := by kernel_rfl
theorem mmay_46 : callB EM0 2000 259 [AV.agg [AV.sym IntKind.u8 k, AV.sym IntKind.i64 a, AV.sym IntKind.i64 f]] [] (mayR k a f) [] [Hint.b false, Hint.b false, Hint.b false, Hint.b false, Hint.b false, Hint.b false, Hint.b false, Hint.b false, Hint.b false, Hint.b false, Hint.b false, Hint.b true, Hint.b true, Hint.b true, Hint.b false] =
 some ([false = mayA k a f,
 decide (f ≥ 0) = false,
 decide (a < 1) = true,
 decide (a ≥ 0) = true,
 (k == 11) = true,
 (k == 10) = false,
 (k == 9) = false,
 (k == 8) = false,
 (k == 7) = false,
 (k == 6) = false,
 (k == 5) = false,
 (k == 4) = false,
 (k == 3) = false,
 (k == 2) = false,
 (k == 1) = false,
 (k == 0) = false]) := by kernel_rfl
theorem mmay_47 : callB EM0 2000 259 [AV.agg [AV.sym IntKind.u8 k, AV.sym IntKind.i64 a, AV.sym IntKind.i64 f]] [] (mayR k a f) [] [Hint.b false, Hint.b false, Hint.b false, Hint.b false, Hint.b false, Hint.b false, Hint.b false, Hint.b false, Hint.b false, Hint.b false, Hint.b false, Hint.b true, Hint.b true, Hint.b false] =
 some ([false = mayA k a f,
 decide (a < 1) = false,
 decide (a ≥ 0) = true,
 (k == 11) = true,
 (k == 10) = false,
 (k == 9) = false,
 (k == 8) = false,
 (k == 7) = false,
 (k == 6) = false,
 (k == 5) = false,
 (k == 4) = false,
 (k == 3) = false,
 (k == 2) = false,
 (k == 1) = false,
 (k == 0) = false]) := by kernel_rfl
theorem mmay_48 : callB EM0 2000 259 [AV.agg [AV.sym IntKind.u8 k, AV.sym IntKind.i64 a, AV.sym IntKind.i64 f]] [] (mayR k a f) [] [Hint.b false, Hint.b false, Hint.b false, Hint.b false, Hint.b false, Hint.b false, Hint.b false, Hint.b false, Hint.b false, Hint.b false, Hint.b false, Hint.b true, Hint.b false] =
 some ([false = mayA k a f,
 decide (a ≥ 0) = false,
 (k == 11) = true,
 (k == 10) = false,
 (k == 9) = false,
 (k == 8) = false,
 (k == 7) = false,
 (k == 6) = false,
 (k == 5) = false,
 (k == 4) = false,
 (k == 3) = false,
 (k == 2) = false,
 (k == 1) = false,
 (k == 0) = false]) := by kernel_rfl
theorem mmay_49 : callB EM0 2000 259 [AV.agg [AV.sym IntKind.u8 k, AV.sym IntKind.i64 a, AV.sym IntKind.i64 f]] [] (mayR k a f) [] [Hint.b false, Hint.b false, Hint.b false, Hint.b false, Hint.b false, Hint.b false, Hint.b false, Hint.b false, Hint.b false, Hint.b false, Hint.b false, Hint.b false, Hint.b true, Hint.b false] =
 some ([false = mayA k a f,
 decide (a < 0) = false,
 decide (a ≥ 0) = true,
 (k == 11) = false,
 (k == 10) = false,
 (k == 9) = false,
 (k == 8) = false,
 (k == 7) = false,
 (k == 6) = false,
 (k == 5) = false,
 (k == 4) = false,
 (k == 3) = false,
 (k == 2) = false,
 (k == 1) = false,
 (k == 0) = false]) := by kernel_rfl
theorem mmay_50 : callB EM0 2000 259 [AV.agg [AV.sym IntKind.u8 k, AV.sym IntKind.i64 a, AV.sym IntKind.i64 f]] [] (mayR k a f) [] [Hint.b false, Hint.b false, Hint.b false, Hint.b false, Hint.b false, Hint.b false, Hint.b false, Hint.b false, Hint.b false, Hint.b false, Hint.b false, Hint.b false, Hint.b false] =
 some ([false = mayA k a f,
 decide (a ≥ 0) = false,
 (k == 11) = false,
 (k == 10) = false,
 (k == 9) = false,
 (k == 8) = false,
 (k == 7) = false,
 (k == 6) = false,
 (k == 5) = false,
 (k == 4) = false,
 (k == 3) = false,
 (k == 2) = false,
 (k == 1) = false,
 (k == 0) = false]) := by kernel_rfl
theorem rmay_loc : LocOk Tryz.prog 260 [.agg [.sym .u8 k, .sym .i64 a, .sym .i64 f]] [] (mayR k a f) := by
  refine loc_of_call EM0_ok (fun hp => ?_)
  have hk : 0 ≤ k := hp _ (List.mem_cons_self ..)
  clear hp
  cases h1 : (k == 6) with
  | true =>
    cases h2 : (decide (a ≥ 0)) with
    | true =>
      have g2 := of_decide_eq_true h2
      try simp only [Int.ofNat_eq_natCast, ge_iff_le, gt_iff_lt, Int.not_lt, Int.not_le] at g2
      cases h3 : (decide (a < 32)) with
      | true =>
        have g3 := of_decide_eq_true h3
        try simp only [Int.ofNat_eq_natCast, ge_iff_le, gt_iff_lt, Int.not_lt, Int.not_le] at g3
        cases h4 : (decide (f ≥ 0)) with
        | true =>
          have g4 := of_decide_eq_true h4
          try simp only [Int.ofNat_eq_natCast, ge_iff_le, gt_iff_lt, Int.not_lt, Int.not_le] at g4
          refine ⟨2000, _, _, _, rmay_1 .., (ob_cons ?_ (ob_cons h4 (ob_cons h3 (ob_cons h2 (ob_cons ?_ (ob_cons h1 ob_nil))))))⟩
          · (simp only [beq_iff_eq, beq_eq_false_iff_ne, ne_eq, decide_eq_true_eq, decide_eq_false_iff_not] at *; simp only [mayA, kAt, kFl, *]; simp; omega)
          · (simp only [beq_iff_eq, beq_eq_false_iff_ne, ne_eq, decide_eq_true_eq, decide_eq_false_iff_not] at *; simp only [mayA, kAt, kFl, *]; simp; done)
        | false =>
          have g4 := of_decide_eq_false h4
          try simp only [Int.ofNat_eq_natCast, ge_iff_le, gt_iff_lt, Int.not_lt, Int.not_le] at g4
          refine ⟨2000, _, _, _, rmay_2 .., (ob_cons ?_ (ob_cons h4 (ob_cons h3 (ob_cons h2 (ob_cons ?_ (ob_cons h1 ob_nil))))))⟩
          · (simp only [beq_iff_eq, beq_eq_false_iff_ne, ne_eq, decide_eq_true_eq, decide_eq_false_iff_not] at *; simp only [mayA, kAt, kFl, *]; simp; done)
          · (simp only [beq_iff_eq, beq_eq_false_iff_ne, ne_eq, decide_eq_true_eq, decide_eq_false_iff_not] at *; simp only [mayA, kAt, kFl, *]; simp; done)
      | false =>
        have g3 := of_decide_eq_false h3
        try simp only [Int.ofNat_eq_natCast, ge_iff_le, gt_iff_lt, Int.not_lt, Int.not_le] at g3
        refine ⟨2000, _, _, _, rmay_3 .., (ob_cons ?_ (ob_cons h3 (ob_cons h2 (ob_cons ?_ (ob_cons h1 ob_nil)))))⟩
        · (simp only [beq_iff_eq, beq_eq_false_iff_ne, ne_eq, decide_eq_true_eq, decide_eq_false_iff_not] at *; simp only [mayA, kAt, kFl, *]; simp; omega)
        · (simp only [beq_iff_eq, beq_eq_false_iff_ne, ne_eq, decide_eq_true_eq, decide_eq_false_iff_not] at *; simp only [mayA, kAt, kFl, *]; simp; done)
    | false =>
      have g2 := of_decide_eq_false h2
      try simp only [Int.ofNat_eq_natCast, ge_iff_le, gt_iff_lt, Int.not_lt, Int.not_le] at g2
      refine ⟨2000, _, _, _, rmay_4 .., (ob_cons ?_ (ob_cons h2 (ob_cons ?_ (ob_cons h1 ob_nil))))⟩
      · (simp only [beq_iff_eq, beq_eq_false_iff_ne, ne_eq, decide_eq_true_eq, decide_eq_false_iff_not] at *; simp only [mayA, kAt, kFl, *]; simp; done)
      · (simp only [beq_iff_eq, beq_eq_false_iff_ne, ne_eq, decide_eq_true_eq, decide_eq_false_iff_not] at *; simp only [mayA, kAt, kFl, *]; simp; done)
  | false =>
    cases h5 : (k == 7) with
    | true =>
      cases h6 : (decide (a ≥ 0)) with
      | true =>
        have g6 := of_decide_eq_true h6
        try simp only [Int.ofNat_eq_natCast, ge_iff_le, gt_iff_lt, Int.not_lt, Int.not_le] at g6
        cases h7 : (decide (a < 4)) with
        | true =>
          have g7 := of_decide_eq_true h7
          try simp only [Int.ofNat_eq_natCast, ge_iff_le, gt_iff_lt, Int.not_lt, Int.not_le] at g7
          cases h8 : (decide (f ≥ 0)) with
          | true =>
            have g8 := of_decide_eq_true h8
            try simp only [Int.ofNat_eq_natCast, ge_iff_le, gt_iff_lt, Int.not_lt, Int.not_le] at g8
            refine ⟨2000, _, _, _, rmay_5 .., (ob_cons ?_ (ob_cons h8 (ob_cons h7 (ob_cons h6 (ob_cons ?_ (ob_cons h5 (ob_cons h1 ob_nil)))))))⟩
            · (simp only [beq_iff_eq, beq_eq_false_iff_ne, ne_eq, decide_eq_true_eq, decide_eq_false_iff_not] at *; simp only [mayA, kAt, kFl, *]; simp; omega)
            · (simp only [beq_iff_eq, beq_eq_false_iff_ne, ne_eq, decide_eq_true_eq, decide_eq_false_iff_not] at *; simp only [mayA, kAt, kFl, *]; simp; done)
          | false =>
            have g8 := of_decide_eq_false h8
            try simp only [Int.ofNat_eq_natCast, ge_iff_le, gt_iff_lt, Int.not_lt, Int.not_le] at g8
            refine ⟨2000, _, _, _, rmay_6 .., (ob_cons ?_ (ob_cons h8 (ob_cons h7 (ob_cons h6 (ob_cons ?_ (ob_cons h5 (ob_cons h1 ob_nil)))))))⟩
            · (simp only [beq_iff_eq, beq_eq_false_iff_ne, ne_eq, decide_eq_true_eq, decide_eq_false_iff_not] at *; simp only [mayA, kAt, kFl, *]; simp; done)
            · (simp only [beq_iff_eq, beq_eq_false_iff_ne, ne_eq, decide_eq_true_eq, decide_eq_false_iff_not] at *; simp only [mayA, kAt, kFl, *]; simp; done)
        | false =>
          have g7 := of_decide_eq_false h7
          try simp only [Int.ofNat_eq_natCast, ge_iff_le, gt_iff_lt, Int.not_lt, Int.not_le] at g7
          refine ⟨2000, _, _, _, rmay_7 .., (ob_cons ?_ (ob_cons h7 (ob_cons h6 (ob_cons ?_ (ob_cons h5 (ob_cons h1 ob_nil))))))⟩
          · (simp only [beq_iff_eq, beq_eq_false_iff_ne, ne_eq, decide_eq_true_eq, decide_eq_false_iff_not] at *; simp only [mayA, kAt, kFl, *]; simp; omega)
          · (simp only [beq_iff_eq, beq_eq_false_iff_ne, ne_eq, decide_eq_true_eq, decide_eq_false_iff_not] at *; simp only [mayA, kAt, kFl, *]; simp; done)
      | false =>
        have g6 := of_decide_eq_false h6
        try simp only [Int.ofNat_eq_natCast, ge_iff_le, gt_iff_lt, Int.not_lt, Int.not_le] at g6
        refine ⟨2000, _, _, _, rmay_8 .., (ob_cons ?_ (ob_cons h6 (ob_cons ?_ (ob_cons h5 (ob_cons h1 ob_nil)))))⟩
        · (simp only [beq_iff_eq, beq_eq_false_iff_ne, ne_eq, decide_eq_true_eq, decide_eq_false_iff_not] at *; simp only [mayA, kAt, kFl, *]; simp; done)
        · (simp only [beq_iff_eq, beq_eq_false_iff_ne, ne_eq, decide_eq_true_eq, decide_eq_false_iff_not] at *; simp only [mayA, kAt, kFl, *]; simp; done)
    | false =>
      cases h9 : (k == 8) with
      | true =>
        cases h10 : (decide (a ≥ 0)) with
        | true =>
          have g10 := of_decide_eq_true h10
          try simp only [Int.ofNat_eq_natCast, ge_iff_le, gt_iff_lt, Int.not_lt, Int.not_le] at g10
          cases h11 : (decide (a < 16)) with
          | true =>
            have g11 := of_decide_eq_true h11
            try simp only [Int.ofNat_eq_natCast, ge_iff_le, gt_iff_lt, Int.not_lt, Int.not_le] at g11
            cases h12 : (decide (f ≥ 0)) with
            | true =>
              have g12 := of_decide_eq_true h12
              try simp only [Int.ofNat_eq_natCast, ge_iff_le, gt_iff_lt, Int.not_lt, Int.not_le] at g12
              refine ⟨2000, _, _, _, rmay_9 .., (ob_cons ?_ (ob_cons h12 (ob_cons h11 (ob_cons h10 (ob_cons ?_ (ob_cons h9 (ob_cons h5 (ob_cons h1 ob_nil))))))))⟩
              · (simp only [beq_iff_eq, beq_eq_false_iff_ne, ne_eq, decide_eq_true_eq, decide_eq_false_iff_not] at *; simp only [mayA, kAt, kFl, *]; simp; omega)
              · (simp only [beq_iff_eq, beq_eq_false_iff_ne, ne_eq, decide_eq_true_eq, decide_eq_false_iff_not] at *; simp only [mayA, kAt, kFl, *]; simp; done)
            | false =>
              have g12 := of_decide_eq_false h12
              try simp only [Int.ofNat_eq_natCast, ge_iff_le, gt_iff_lt, Int.not_lt, Int.not_le] at g12
              refine ⟨2000, _, _, _, rmay_10 .., (ob_cons ?_ (ob_cons h12 (ob_cons h11 (ob_cons h10 (ob_cons ?_ (ob_cons h9 (ob_cons h5 (ob_cons h1 ob_nil))))))))⟩
              · (simp only [beq_iff_eq, beq_eq_false_iff_ne, ne_eq, decide_eq_true_eq, decide_eq_false_iff_not] at *; simp only [mayA, kAt, kFl, *]; simp; done)
              · (simp only [beq_iff_eq, beq_eq_false_iff_ne, ne_eq, decide_eq_true_eq, decide_eq_false_iff_not] at *; simp only [mayA, kAt, kFl, *]; simp; done)
          | false =>
            have g11 := of_decide_eq_false h11
            try simp only [Int.ofNat_eq_natCast, ge_iff_le, gt_iff_lt, Int.not_lt, Int.not_le] at g11
            refine ⟨2000, _, _, _, rmay_11 .., (ob_cons ?_ (ob_cons h11 (ob_cons h10 (ob_cons ?_ (ob_cons h9 (ob_cons h5 (ob_cons h1 ob_nil)))))))⟩
            · (simp only [beq_iff_eq, beq_eq_false_iff_ne, ne_eq, decide_eq_true_eq, decide_eq_false_iff_not] at *; simp only [mayA, kAt, kFl, *]; simp; omega)
            · (simp only [beq_iff_eq, beq_eq_false_iff_ne, ne_eq, decide_eq_true_eq, decide_eq_false_iff_not] at *; simp only [mayA, kAt, kFl, *]; simp; done)
        | false =>
          have g10 := of_decide_eq_false h10
          try simp only [Int.ofNat_eq_natCast, ge_iff_le, gt_iff_lt, Int.not_lt, Int.not_le] at g10
          refine ⟨2000, _, _, _, rmay_12 .., (ob_cons ?_ (ob_cons h10 (ob_cons ?_ (ob_cons h9 (ob_cons h5 (ob_cons h1 ob_nil))))))⟩
          · (simp only [beq_iff_eq, beq_eq_false_iff_ne, ne_eq, decide_eq_true_eq, decide_eq_false_iff_not] at *; simp only [mayA, kAt, kFl, *]; simp; done)
          · (simp only [beq_iff_eq, beq_eq_false_iff_ne, ne_eq, decide_eq_true_eq, decide_eq_false_iff_not] at *; simp only [mayA, kAt, kFl, *]; simp; done)
      | false =>
        cases h13 : (k == 9) with
        | true =>
          cases h14 : (decide (a ≥ 0)) with
          | true =>
            have g14 := of_decide_eq_true h14
            try simp only [Int.ofNat_eq_natCast, ge_iff_le, gt_iff_lt, Int.not_lt, Int.not_le] at g14
            cases h15 : (decide (a < 256)) with
            | true =>
              have g15 := of_decide_eq_true h15
              try simp only [Int.ofNat_eq_natCast, ge_iff_le, gt_iff_lt, Int.not_lt, Int.not_le] at g15
              cases h16 : (decide (f ≥ 0)) with
              | true =>
                have g16 := of_decide_eq_true h16
                try simp only [Int.ofNat_eq_natCast, ge_iff_le, gt_iff_lt, Int.not_lt, Int.not_le] at g16
                refine ⟨2000, _, _, _, rmay_13 .., (ob_cons ?_ (ob_cons h16 (ob_cons h15 (ob_cons h14 (ob_cons ?_ (ob_cons h13 (ob_cons h9 (ob_cons h5 (ob_cons h1 ob_nil)))))))))⟩
                · (simp only [beq_iff_eq, beq_eq_false_iff_ne, ne_eq, decide_eq_true_eq, decide_eq_false_iff_not] at *; simp only [mayA, kAt, kFl, *]; simp; omega)
                · (simp only [beq_iff_eq, beq_eq_false_iff_ne, ne_eq, decide_eq_true_eq, decide_eq_false_iff_not] at *; simp only [mayA, kAt, kFl, *]; simp; done)
              | false =>
                have g16 := of_decide_eq_false h16
                try simp only [Int.ofNat_eq_natCast, ge_iff_le, gt_iff_lt, Int.not_lt, Int.not_le] at g16
                refine ⟨2000, _, _, _, rmay_14 .., (ob_cons ?_ (ob_cons h16 (ob_cons h15 (ob_cons h14 (ob_cons ?_ (ob_cons h13 (ob_cons h9 (ob_cons h5 (ob_cons h1 ob_nil)))))))))⟩
                · (simp only [beq_iff_eq, beq_eq_false_iff_ne, ne_eq, decide_eq_true_eq, decide_eq_false_iff_not] at *; simp only [mayA, kAt, kFl, *]; simp; done)
                · (simp only [beq_iff_eq, beq_eq_false_iff_ne, ne_eq, decide_eq_true_eq, decide_eq_false_iff_not] at *; simp only [mayA, kAt, kFl, *]; simp; done)
            | false =>
              have g15 := of_decide_eq_false h15
              try simp only [Int.ofNat_eq_natCast, ge_iff_le, gt_iff_lt, Int.not_lt, Int.not_le] at g15
              refine ⟨2000, _, _, _, rmay_15 .., (ob_cons ?_ (ob_cons h15 (ob_cons h14 (ob_cons ?_ (ob_cons h13 (ob_cons h9 (ob_cons h5 (ob_cons h1 ob_nil))))))))⟩
              · (simp only [beq_iff_eq, beq_eq_false_iff_ne, ne_eq, decide_eq_true_eq, decide_eq_false_iff_not] at *; simp only [mayA, kAt, kFl, *]; simp; omega)
              · (simp only [beq_iff_eq, beq_eq_false_iff_ne, ne_eq, decide_eq_true_eq, decide_eq_false_iff_not] at *; simp only [mayA, kAt, kFl, *]; simp; done)
          | false =>
            have g14 := of_decide_eq_false h14
            try simp only [Int.ofNat_eq_natCast, ge_iff_le, gt_iff_lt, Int.not_lt, Int.not_le] at g14
            refine ⟨2000, _, _, _, rmay_16 .., (ob_cons ?_ (ob_cons h14 (ob_cons ?_ (ob_cons h13 (ob_cons h9 (ob_cons h5 (ob_cons h1 ob_nil)))))))⟩
            · (simp only [beq_iff_eq, beq_eq_false_iff_ne, ne_eq, decide_eq_true_eq, decide_eq_false_iff_not] at *; simp only [mayA, kAt, kFl, *]; simp; done)
            · (simp only [beq_iff_eq, beq_eq_false_iff_ne, ne_eq, decide_eq_true_eq, decide_eq_false_iff_not] at *; simp only [mayA, kAt, kFl, *]; simp; done)
        | false =>
          cases h17 : (k == 10) with
          | true =>
            cases h18 : (decide (a ≥ 0)) with
            | true =>
              have g18 := of_decide_eq_true h18
              try simp only [Int.ofNat_eq_natCast, ge_iff_le, gt_iff_lt, Int.not_lt, Int.not_le] at g18
              cases h19 : (decide (a < 9)) with
              | true =>
                have g19 := of_decide_eq_true h19
                try simp only [Int.ofNat_eq_natCast, ge_iff_le, gt_iff_lt, Int.not_lt, Int.not_le] at g19
                cases h20 : (decide (f ≥ 0)) with
                | true =>
                  have g20 := of_decide_eq_true h20
                  try simp only [Int.ofNat_eq_natCast, ge_iff_le, gt_iff_lt, Int.not_lt, Int.not_le] at g20
                  refine ⟨2000, _, _, _, rmay_17 .., (ob_cons ?_ (ob_cons h20 (ob_cons h19 (ob_cons h18 (ob_cons ?_ (ob_cons h17 (ob_cons h13 (ob_cons h9 (ob_cons h5 (ob_cons h1 ob_nil))))))))))⟩
                  · (simp only [beq_iff_eq, beq_eq_false_iff_ne, ne_eq, decide_eq_true_eq, decide_eq_false_iff_not] at *; simp only [mayA, kAt, kFl, *]; simp; omega)
                  · (simp only [beq_iff_eq, beq_eq_false_iff_ne, ne_eq, decide_eq_true_eq, decide_eq_false_iff_not] at *; simp only [mayA, kAt, kFl, *]; simp; done)
                | false =>
                  have g20 := of_decide_eq_false h20
                  try simp only [Int.ofNat_eq_natCast, ge_iff_le, gt_iff_lt, Int.not_lt, Int.not_le] at g20
                  refine ⟨2000, _, _, _, rmay_18 .., (ob_cons ?_ (ob_cons h20 (ob_cons h19 (ob_cons h18 (ob_cons ?_ (ob_cons h17 (ob_cons h13 (ob_cons h9 (ob_cons h5 (ob_cons h1 ob_nil))))))))))⟩
                  · (simp only [beq_iff_eq, beq_eq_false_iff_ne, ne_eq, decide_eq_true_eq, decide_eq_false_iff_not] at *; simp only [mayA, kAt, kFl, *]; simp; done)
                  · (simp only [beq_iff_eq, beq_eq_false_iff_ne, ne_eq, decide_eq_true_eq, decide_eq_false_iff_not] at *; simp only [mayA, kAt, kFl, *]; simp; done)
              | false =>
                have g19 := of_decide_eq_false h19
                try simp only [Int.ofNat_eq_natCast, ge_iff_le, gt_iff_lt, Int.not_lt, Int.not_le] at g19
                refine ⟨2000, _, _, _, rmay_19 .., (ob_cons ?_ (ob_cons h19 (ob_cons h18 (ob_cons ?_ (ob_cons h17 (ob_cons h13 (ob_cons h9 (ob_cons h5 (ob_cons h1 ob_nil)))))))))⟩
                · (simp only [beq_iff_eq, beq_eq_false_iff_ne, ne_eq, decide_eq_true_eq, decide_eq_false_iff_not] at *; simp only [mayA, kAt, kFl, *]; simp; omega)
                · (simp only [beq_iff_eq, beq_eq_false_iff_ne, ne_eq, decide_eq_true_eq, decide_eq_false_iff_not] at *; simp only [mayA, kAt, kFl, *]; simp; done)
            | false =>
              have g18 := of_decide_eq_false h18
              try simp only [Int.ofNat_eq_natCast, ge_iff_le, gt_iff_lt, Int.not_lt, Int.not_le] at g18
              refine ⟨2000, _, _, _, rmay_20 .., (ob_cons ?_ (ob_cons h18 (ob_cons ?_ (ob_cons h17 (ob_cons h13 (ob_cons h9 (ob_cons h5 (ob_cons h1 ob_nil))))))))⟩
              · (simp only [beq_iff_eq, beq_eq_false_iff_ne, ne_eq, decide_eq_true_eq, decide_eq_false_iff_not] at *; simp only [mayA, kAt, kFl, *]; simp; done)
              · (simp only [beq_iff_eq, beq_eq_false_iff_ne, ne_eq, decide_eq_true_eq, decide_eq_false_iff_not] at *; simp only [mayA, kAt, kFl, *]; simp; done)
          | false =>
            cases h21 : (k == 11) with
            | true =>
              cases h22 : (decide (a ≥ 0)) with
              | true =>
                have g22 := of_decide_eq_true h22
                try simp only [Int.ofNat_eq_natCast, ge_iff_le, gt_iff_lt, Int.not_lt, Int.not_le] at g22
                cases h23 : (decide (a < 1)) with
                | true =>
                  have g23 := of_decide_eq_true h23
                  try simp only [Int.ofNat_eq_natCast, ge_iff_le, gt_iff_lt, Int.not_lt, Int.not_le] at g23
                  cases h24 : (decide (f ≥ 0)) with
                  | true =>
                    have g24 := of_decide_eq_true h24
                    try simp only [Int.ofNat_eq_natCast, ge_iff_le, gt_iff_lt, Int.not_lt, Int.not_le] at g24
                    refine ⟨2000, _, _, _, rmay_21 .., (ob_cons ?_ (ob_cons h24 (ob_cons h23 (ob_cons h22 (ob_cons ?_ (ob_cons h21 (ob_cons h17 (ob_cons h13 (ob_cons h9 (ob_cons h5 (ob_cons h1 ob_nil)))))))))))⟩
                    · (simp only [beq_iff_eq, beq_eq_false_iff_ne, ne_eq, decide_eq_true_eq, decide_eq_false_iff_not] at *; simp only [mayA, kAt, kFl, *]; simp; omega)
                    · (simp only [beq_iff_eq, beq_eq_false_iff_ne, ne_eq, decide_eq_true_eq, decide_eq_false_iff_not] at *; simp only [mayA, kAt, kFl, *]; simp; done)
                  | false =>
                    have g24 := of_decide_eq_false h24
                    try simp only [Int.ofNat_eq_natCast, ge_iff_le, gt_iff_lt, Int.not_lt, Int.not_le] at g24
                    refine ⟨2000, _, _, _, rmay_22 .., (ob_cons ?_ (ob_cons h24 (ob_cons h23 (ob_cons h22 (ob_cons ?_ (ob_cons h21 (ob_cons h17 (ob_cons h13 (ob_cons h9 (ob_cons h5 (ob_cons h1 ob_nil)))))))))))⟩
                    · (simp only [beq_iff_eq, beq_eq_false_iff_ne, ne_eq, decide_eq_true_eq, decide_eq_false_iff_not] at *; simp only [mayA, kAt, kFl, *]; simp; done)
                    · (simp only [beq_iff_eq, beq_eq_false_iff_ne, ne_eq, decide_eq_true_eq, decide_eq_false_iff_not] at *; simp only [mayA, kAt, kFl, *]; simp; done)
                | false =>
                  have g23 := of_decide_eq_false h23
                  try simp only [Int.ofNat_eq_natCast, ge_iff_le, gt_iff_lt, Int.not_lt, Int.not_le] at g23
                  refine ⟨2000, _, _, _, rmay_23 .., (ob_cons ?_ (ob_cons h23 (ob_cons h22 (ob_cons ?_ (ob_cons h21 (ob_cons h17 (ob_cons h13 (ob_cons h9 (ob_cons h5 (ob_cons h1 ob_nil))))))))))⟩
                  · (simp only [beq_iff_eq, beq_eq_false_iff_ne, ne_eq, decide_eq_true_eq, decide_eq_false_iff_not] at *; simp only [mayA, kAt, kFl, *]; simp; omega)
                  · (simp only [beq_iff_eq, beq_eq_false_iff_ne, ne_eq, decide_eq_true_eq, decide_eq_false_iff_not] at *; simp only [mayA, kAt, kFl, *]; simp; done)
              | false =>
                have g22 := of_decide_eq_false h22
                try simp only [Int.ofNat_eq_natCast, ge_iff_le, gt_iff_lt, Int.not_lt, Int.not_le] at g22
                refine ⟨2000, _, _, _, rmay_24 .., (ob_cons ?_ (ob_cons h22 (ob_cons ?_ (ob_cons h21 (ob_cons h17 (ob_cons h13 (ob_cons h9 (ob_cons h5 (ob_cons h1 ob_nil)))))))))⟩
                · (simp only [beq_iff_eq, beq_eq_false_iff_ne, ne_eq, decide_eq_true_eq, decide_eq_false_iff_not] at *; simp only [mayA, kAt, kFl, *]; simp; done)
                · (simp only [beq_iff_eq, beq_eq_false_iff_ne, ne_eq, decide_eq_true_eq, decide_eq_false_iff_not] at *; simp only [mayA, kAt, kFl, *]; simp; done)
            | false =>
              cases h25 : (decide (k ≤ 11)) with
              | true =>
                have g25 := of_decide_eq_true h25
                try simp only [Int.ofNat_eq_natCast, ge_iff_le, gt_iff_lt, Int.not_lt, Int.not_le] at g25
                cases h26 : (decide (a ≥ 0)) with
                | true =>
                  have g26 := of_decide_eq_true h26
                  try simp only [Int.ofNat_eq_natCast, ge_iff_le, gt_iff_lt, Int.not_lt, Int.not_le] at g26
                  cases h27 : (decide (a < 1)) with
                  | true =>
                    have g27 := of_decide_eq_true h27
                    try simp only [Int.ofNat_eq_natCast, ge_iff_le, gt_iff_lt, Int.not_lt, Int.not_le] at g27
                    cases h28 : (decide (f ≥ 0)) with
                    | true =>
                      have g28 := of_decide_eq_true h28
                      try simp only [Int.ofNat_eq_natCast, ge_iff_le, gt_iff_lt, Int.not_lt, Int.not_le] at g28
                      refine ⟨2000, _, _, _, rmay_25 .., (ob_cons ?_ (ob_cons h28 (ob_cons h27 (ob_cons h26 (ob_cons h25 (ob_cons h21 (ob_cons h17 (ob_cons h13 (ob_cons h9 (ob_cons h5 (ob_cons h1 ob_nil)))))))))))⟩
                      · (simp only [beq_iff_eq, beq_eq_false_iff_ne, ne_eq, decide_eq_true_eq, decide_eq_false_iff_not] at *; simp only [mayA, kAt, kFl, *]; simp; omega)
                    | false =>
                      have g28 := of_decide_eq_false h28
                      try simp only [Int.ofNat_eq_natCast, ge_iff_le, gt_iff_lt, Int.not_lt, Int.not_le] at g28
                      refine ⟨2000, _, _, _, rmay_26 .., (ob_cons ?_ (ob_cons h28 (ob_cons h27 (ob_cons h26 (ob_cons h25 (ob_cons h21 (ob_cons h17 (ob_cons h13 (ob_cons h9 (ob_cons h5 (ob_cons h1 ob_nil)))))))))))⟩
                      · (simp only [beq_iff_eq, beq_eq_false_iff_ne, ne_eq, decide_eq_true_eq, decide_eq_false_iff_not] at *; simp only [mayA, kAt, kFl, *]; simp; done)
                  | false =>
                    have g27 := of_decide_eq_false h27
                    try simp only [Int.ofNat_eq_natCast, ge_iff_le, gt_iff_lt, Int.not_lt, Int.not_le] at g27
                    refine ⟨2000, _, _, _, rmay_27 .., (ob_cons ?_ (ob_cons h27 (ob_cons h26 (ob_cons h25 (ob_cons h21 (ob_cons h17 (ob_cons h13 (ob_cons h9 (ob_cons h5 (ob_cons h1 ob_nil))))))))))⟩
                    · (simp only [beq_iff_eq, beq_eq_false_iff_ne, ne_eq, decide_eq_true_eq, decide_eq_false_iff_not] at *; simp only [mayA, kAt, kFl, *]; simp; omega)
                | false =>
                  have g26 := of_decide_eq_false h26
                  try simp only [Int.ofNat_eq_natCast, ge_iff_le, gt_iff_lt, Int.not_lt, Int.not_le] at g26
                  refine ⟨2000, _, _, _, rmay_28 .., (ob_cons ?_ (ob_cons h26 (ob_cons h25 (ob_cons h21 (ob_cons h17 (ob_cons h13 (ob_cons h9 (ob_cons h5 (ob_cons h1 ob_nil)))))))))⟩
                  · (simp only [beq_iff_eq, beq_eq_false_iff_ne, ne_eq, decide_eq_true_eq, decide_eq_false_iff_not] at *; simp only [mayA, kAt, kFl, *]; simp; done)
              | false =>
                have g25 := of_decide_eq_false h25
                try simp only [Int.ofNat_eq_natCast, ge_iff_le, gt_iff_lt, Int.not_lt, Int.not_le] at g25
                refine ⟨2000, _, _, _, rmay_29 .., (ob_cons ?_ (ob_cons h25 (ob_cons h21 (ob_cons h17 (ob_cons h13 (ob_cons h9 (ob_cons h5 (ob_cons h1 ob_nil))))))))⟩
                · (simp only [beq_iff_eq, beq_eq_false_iff_ne, ne_eq, decide_eq_true_eq, decide_eq_false_iff_not] at *; simp only [mayA, kAt, kFl, *]; simp; done)
theorem mmay_loc : LocOk Tryz.prog 259 [.agg [.sym .u8 k, .sym .i64 a, .sym .i64 f]] [] (mayR k a f) := by
  refine loc_of_call EM0_ok (fun hp => ?_)
  have hk : 0 ≤ k := hp _ (List.mem_cons_self ..)
  clear hp
  cases h1 : (k == 0) with
  | true =>
    cases h2 : (decide (a ≥ 0)) with
    | true =>
      have g2 := of_decide_eq_true h2
      try simp only [Int.ofNat_eq_natCast, ge_iff_le, gt_iff_lt, Int.not_lt, Int.not_le] at g2
      cases h3 : (decide (a < 1)) with
      | true =>
        have g3 := of_decide_eq_true h3
        try simp only [Int.ofNat_eq_natCast, ge_iff_le, gt_iff_lt, Int.not_lt, Int.not_le] at g3
        cases h4 : (decide (f ≥ 0)) with
        | true =>
          have g4 := of_decide_eq_true h4
          try simp only [Int.ofNat_eq_natCast, ge_iff_le, gt_iff_lt, Int.not_lt, Int.not_le] at g4
          refine ⟨2000, _, _, _, mmay_1 .., (ob_cons ?_ (ob_cons h4 (ob_cons h3 (ob_cons h2 (ob_cons h1 (ob_cons h1 ob_nil))))))⟩
          · (simp only [beq_iff_eq, beq_eq_false_iff_ne, ne_eq, decide_eq_true_eq, decide_eq_false_iff_not] at *; simp only [mayA, kAt, kFl, *]; simp; omega)
        | false =>
          have g4 := of_decide_eq_false h4
          try simp only [Int.ofNat_eq_natCast, ge_iff_le, gt_iff_lt, Int.not_lt, Int.not_le] at g4
          refine ⟨2000, _, _, _, mmay_2 .., (ob_cons ?_ (ob_cons h4 (ob_cons h3 (ob_cons h2 (ob_cons h1 (ob_cons h1 ob_nil))))))⟩
          · (simp only [beq_iff_eq, beq_eq_false_iff_ne, ne_eq, decide_eq_true_eq, decide_eq_false_iff_not] at *; simp only [mayA, kAt, kFl, *]; simp; done)
      | false =>
        have g3 := of_decide_eq_false h3
        try simp only [Int.ofNat_eq_natCast, ge_iff_le, gt_iff_lt, Int.not_lt, Int.not_le] at g3
        refine ⟨2000, _, _, _, mmay_3 .., (ob_cons ?_ (ob_cons h3 (ob_cons h2 (ob_cons h1 (ob_cons h1 ob_nil)))))⟩
        · (simp only [beq_iff_eq, beq_eq_false_iff_ne, ne_eq, decide_eq_true_eq, decide_eq_false_iff_not] at *; simp only [mayA, kAt, kFl, *]; simp; omega)
    | false =>
      have g2 := of_decide_eq_false h2
      try simp only [Int.ofNat_eq_natCast, ge_iff_le, gt_iff_lt, Int.not_lt, Int.not_le] at g2
      refine ⟨2000, _, _, _, mmay_4 .., (ob_cons ?_ (ob_cons h2 (ob_cons h1 (ob_cons h1 ob_nil))))⟩
      · (simp only [beq_iff_eq, beq_eq_false_iff_ne, ne_eq, decide_eq_true_eq, decide_eq_false_iff_not] at *; simp only [mayA, kAt, kFl, *]; simp; done)
  | false =>
    cases h5 : (k == 1) with
    | true =>
      cases h6 : (decide (a ≥ 0)) with
      | true =>
        have g6 := of_decide_eq_true h6
        try simp only [Int.ofNat_eq_natCast, ge_iff_le, gt_iff_lt, Int.not_lt, Int.not_le] at g6
        cases h7 : (decide (a < 1)) with
        | true =>
          have g7 := of_decide_eq_true h7
          try simp only [Int.ofNat_eq_natCast, ge_iff_le, gt_iff_lt, Int.not_lt, Int.not_le] at g7
          cases h8 : (decide (f ≥ 0)) with
          | true =>
            have g8 := of_decide_eq_true h8
            try simp only [Int.ofNat_eq_natCast, ge_iff_le, gt_iff_lt, Int.not_lt, Int.not_le] at g8
            refine ⟨2000, _, _, _, mmay_5 .., (ob_cons ?_ (ob_cons h8 (ob_cons h7 (ob_cons h6 (ob_cons h5 (ob_cons h5 (ob_cons h1 ob_nil)))))))⟩
            · (simp only [beq_iff_eq, beq_eq_false_iff_ne, ne_eq, decide_eq_true_eq, decide_eq_false_iff_not] at *; simp only [mayA, kAt, kFl, *]; simp; omega)
          | false =>
            have g8 := of_decide_eq_false h8
            try simp only [Int.ofNat_eq_natCast, ge_iff_le, gt_iff_lt, Int.not_lt, Int.not_le] at g8
            refine ⟨2000, _, _, _, mmay_6 .., (ob_cons ?_ (ob_cons h8 (ob_cons h7 (ob_cons h6 (ob_cons h5 (ob_cons h5 (ob_cons h1 ob_nil)))))))⟩
            · (simp only [beq_iff_eq, beq_eq_false_iff_ne, ne_eq, decide_eq_true_eq, decide_eq_false_iff_not] at *; simp only [mayA, kAt, kFl, *]; simp; done)
        | false =>
          have g7 := of_decide_eq_false h7
          try simp only [Int.ofNat_eq_natCast, ge_iff_le, gt_iff_lt, Int.not_lt, Int.not_le] at g7
          refine ⟨2000, _, _, _, mmay_7 .., (ob_cons ?_ (ob_cons h7 (ob_cons h6 (ob_cons h5 (ob_cons h5 (ob_cons h1 ob_nil))))))⟩
          · (simp only [beq_iff_eq, beq_eq_false_iff_ne, ne_eq, decide_eq_true_eq, decide_eq_false_iff_not] at *; simp only [mayA, kAt, kFl, *]; simp; omega)
      | false =>
        have g6 := of_decide_eq_false h6
        try simp only [Int.ofNat_eq_natCast, ge_iff_le, gt_iff_lt, Int.not_lt, Int.not_le] at g6
        refine ⟨2000, _, _, _, mmay_8 .., (ob_cons ?_ (ob_cons h6 (ob_cons h5 (ob_cons h5 (ob_cons h1 ob_nil)))))⟩
        · (simp only [beq_iff_eq, beq_eq_false_iff_ne, ne_eq, decide_eq_true_eq, decide_eq_false_iff_not] at *; simp only [mayA, kAt, kFl, *]; simp; done)
    | false =>
      cases h9 : (k == 2) with
      | true =>
        cases h10 : (decide (a ≥ 0)) with
        | true =>
          have g10 := of_decide_eq_true h10
          try simp only [Int.ofNat_eq_natCast, ge_iff_le, gt_iff_lt, Int.not_lt, Int.not_le] at g10
          cases h11 : (decide (a < 1)) with
          | true =>
            have g11 := of_decide_eq_true h11
            try simp only [Int.ofNat_eq_natCast, ge_iff_le, gt_iff_lt, Int.not_lt, Int.not_le] at g11
            cases h12 : (decide (f ≥ 0)) with
            | true =>
              have g12 := of_decide_eq_true h12
              try simp only [Int.ofNat_eq_natCast, ge_iff_le, gt_iff_lt, Int.not_lt, Int.not_le] at g12
              refine ⟨2000, _, _, _, mmay_9 .., (ob_cons ?_ (ob_cons h12 (ob_cons h11 (ob_cons h10 (ob_cons h9 (ob_cons h9 (ob_cons h5 (ob_cons h1 ob_nil))))))))⟩
              · (simp only [beq_iff_eq, beq_eq_false_iff_ne, ne_eq, decide_eq_true_eq, decide_eq_false_iff_not] at *; simp only [mayA, kAt, kFl, *]; simp; omega)
            | false =>
              have g12 := of_decide_eq_false h12
              try simp only [Int.ofNat_eq_natCast, ge_iff_le, gt_iff_lt, Int.not_lt, Int.not_le] at g12
              refine ⟨2000, _, _, _, mmay_10 .., (ob_cons ?_ (ob_cons h12 (ob_cons h11 (ob_cons h10 (ob_cons h9 (ob_cons h9 (ob_cons h5 (ob_cons h1 ob_nil))))))))⟩
              · (simp only [beq_iff_eq, beq_eq_false_iff_ne, ne_eq, decide_eq_true_eq, decide_eq_false_iff_not] at *; simp only [mayA, kAt, kFl, *]; simp; done)
          | false =>
            have g11 := of_decide_eq_false h11
            try simp only [Int.ofNat_eq_natCast, ge_iff_le, gt_iff_lt, Int.not_lt, Int.not_le] at g11
            refine ⟨2000, _, _, _, mmay_11 .., (ob_cons ?_ (ob_cons h11 (ob_cons h10 (ob_cons h9 (ob_cons h9 (ob_cons h5 (ob_cons h1 ob_nil)))))))⟩
            · (simp only [beq_iff_eq, beq_eq_false_iff_ne, ne_eq, decide_eq_true_eq, decide_eq_false_iff_not] at *; simp only [mayA, kAt, kFl, *]; simp; omega)
        | false =>
          have g10 := of_decide_eq_false h10
          try simp only [Int.ofNat_eq_natCast, ge_iff_le, gt_iff_lt, Int.not_lt, Int.not_le] at g10
          refine ⟨2000, _, _, _, mmay_12 .., (ob_cons ?_ (ob_cons h10 (ob_cons h9 (ob_cons h9 (ob_cons h5 (ob_cons h1 ob_nil))))))⟩
          · (simp only [beq_iff_eq, beq_eq_false_iff_ne, ne_eq, decide_eq_true_eq, decide_eq_false_iff_not] at *; simp only [mayA, kAt, kFl, *]; simp; done)
      | false =>
        cases h13 : (k == 3) with
        | true =>
          cases h14 : (decide (a ≥ 0)) with
          | true =>
            have g14 := of_decide_eq_true h14
            try simp only [Int.ofNat_eq_natCast, ge_iff_le, gt_iff_lt, Int.not_lt, Int.not_le] at g14
            cases h15 : (decide (a < 1)) with
            | true =>
              have g15 := of_decide_eq_true h15
              try simp only [Int.ofNat_eq_natCast, ge_iff_le, gt_iff_lt, Int.not_lt, Int.not_le] at g15
              cases h16 : (decide (f ≥ 0)) with
              | true =>
                have g16 := of_decide_eq_true h16
                try simp only [Int.ofNat_eq_natCast, ge_iff_le, gt_iff_lt, Int.not_lt, Int.not_le] at g16
                refine ⟨2000, _, _, _, mmay_13 .., (ob_cons ?_ (ob_cons h16 (ob_cons h15 (ob_cons h14 (ob_cons h13 (ob_cons h13 (ob_cons h9 (ob_cons h5 (ob_cons h1 ob_nil)))))))))⟩
                · (simp only [beq_iff_eq, beq_eq_false_iff_ne, ne_eq, decide_eq_true_eq, decide_eq_false_iff_not] at *; simp only [mayA, kAt, kFl, *]; simp; omega)
              | false =>
                have g16 := of_decide_eq_false h16
                try simp only [Int.ofNat_eq_natCast, ge_iff_le, gt_iff_lt, Int.not_lt, Int.not_le] at g16
                refine ⟨2000, _, _, _, mmay_14 .., (ob_cons ?_ (ob_cons h16 (ob_cons h15 (ob_cons h14 (ob_cons h13 (ob_cons h13 (ob_cons h9 (ob_cons h5 (ob_cons h1 ob_nil)))))))))⟩
                · (simp only [beq_iff_eq, beq_eq_false_iff_ne, ne_eq, decide_eq_true_eq, decide_eq_false_iff_not] at *; simp only [mayA, kAt, kFl, *]; simp; done)
            | false =>
              have g15 := of_decide_eq_false h15
              try simp only [Int.ofNat_eq_natCast, ge_iff_le, gt_iff_lt, Int.not_lt, Int.not_le] at g15
              refine ⟨2000, _, _, _, mmay_15 .., (ob_cons ?_ (ob_cons h15 (ob_cons h14 (ob_cons h13 (ob_cons h13 (ob_cons h9 (ob_cons h5 (ob_cons h1 ob_nil))))))))⟩
              · (simp only [beq_iff_eq, beq_eq_false_iff_ne, ne_eq, decide_eq_true_eq, decide_eq_false_iff_not] at *; simp only [mayA, kAt, kFl, *]; simp; omega)
          | false =>
            have g14 := of_decide_eq_false h14
            try simp only [Int.ofNat_eq_natCast, ge_iff_le, gt_iff_lt, Int.not_lt, Int.not_le] at g14
            refine ⟨2000, _, _, _, mmay_16 .., (ob_cons ?_ (ob_cons h14 (ob_cons h13 (ob_cons h13 (ob_cons h9 (ob_cons h5 (ob_cons h1 ob_nil)))))))⟩
            · (simp only [beq_iff_eq, beq_eq_false_iff_ne, ne_eq, decide_eq_true_eq, decide_eq_false_iff_not] at *; simp only [mayA, kAt, kFl, *]; simp; done)
        | false =>
          cases h17 : (k == 4) with
          | true =>
            cases h18 : (decide (a ≥ 0)) with
            | true =>
              have g18 := of_decide_eq_true h18
              try simp only [Int.ofNat_eq_natCast, ge_iff_le, gt_iff_lt, Int.not_lt, Int.not_le] at g18
              cases h19 : (decide (a < 1)) with
              | true =>
                have g19 := of_decide_eq_true h19
                try simp only [Int.ofNat_eq_natCast, ge_iff_le, gt_iff_lt, Int.not_lt, Int.not_le] at g19
                cases h20 : (decide (f ≥ 0)) with
                | true =>
                  have g20 := of_decide_eq_true h20
                  try simp only [Int.ofNat_eq_natCast, ge_iff_le, gt_iff_lt, Int.not_lt, Int.not_le] at g20
                  refine ⟨2000, _, _, _, mmay_17 .., (ob_cons ?_ (ob_cons h20 (ob_cons h19 (ob_cons h18 (ob_cons h17 (ob_cons h17 (ob_cons h13 (ob_cons h9 (ob_cons h5 (ob_cons h1 ob_nil))))))))))⟩
                  · (simp only [beq_iff_eq, beq_eq_false_iff_ne, ne_eq, decide_eq_true_eq, decide_eq_false_iff_not] at *; simp only [mayA, kAt, kFl, *]; simp; omega)
                | false =>
                  have g20 := of_decide_eq_false h20
                  try simp only [Int.ofNat_eq_natCast, ge_iff_le, gt_iff_lt, Int.not_lt, Int.not_le] at g20
                  refine ⟨2000, _, _, _, mmay_18 .., (ob_cons ?_ (ob_cons h20 (ob_cons h19 (ob_cons h18 (ob_cons h17 (ob_cons h17 (ob_cons h13 (ob_cons h9 (ob_cons h5 (ob_cons h1 ob_nil))))))))))⟩
                  · (simp only [beq_iff_eq, beq_eq_false_iff_ne, ne_eq, decide_eq_true_eq, decide_eq_false_iff_not] at *; simp only [mayA, kAt, kFl, *]; simp; done)
              | false =>
                have g19 := of_decide_eq_false h19
                try simp only [Int.ofNat_eq_natCast, ge_iff_le, gt_iff_lt, Int.not_lt, Int.not_le] at g19
                refine ⟨2000, _, _, _, mmay_19 .., (ob_cons ?_ (ob_cons h19 (ob_cons h18 (ob_cons h17 (ob_cons h17 (ob_cons h13 (ob_cons h9 (ob_cons h5 (ob_cons h1 ob_nil)))))))))⟩
                · (simp only [beq_iff_eq, beq_eq_false_iff_ne, ne_eq, decide_eq_true_eq, decide_eq_false_iff_not] at *; simp only [mayA, kAt, kFl, *]; simp; omega)
            | false =>
              have g18 := of_decide_eq_false h18
              try simp only [Int.ofNat_eq_natCast, ge_iff_le, gt_iff_lt, Int.not_lt, Int.not_le] at g18
              refine ⟨2000, _, _, _, mmay_20 .., (ob_cons ?_ (ob_cons h18 (ob_cons h17 (ob_cons h17 (ob_cons h13 (ob_cons h9 (ob_cons h5 (ob_cons h1 ob_nil))))))))⟩
              · (simp only [beq_iff_eq, beq_eq_false_iff_ne, ne_eq, decide_eq_true_eq, decide_eq_false_iff_not] at *; simp only [mayA, kAt, kFl, *]; simp; done)
          | false =>
            cases h21 : (k == 5) with
            | true =>
              cases h22 : (decide (a ≥ 0)) with
              | true =>
                have g22 := of_decide_eq_true h22
                try simp only [Int.ofNat_eq_natCast, ge_iff_le, gt_iff_lt, Int.not_lt, Int.not_le] at g22
                cases h23 : (decide (a < 1)) with
                | true =>
                  have g23 := of_decide_eq_true h23
                  try simp only [Int.ofNat_eq_natCast, ge_iff_le, gt_iff_lt, Int.not_lt, Int.not_le] at g23
                  cases h24 : (decide (f ≥ 0)) with
                  | true =>
                    have g24 := of_decide_eq_true h24
                    try simp only [Int.ofNat_eq_natCast, ge_iff_le, gt_iff_lt, Int.not_lt, Int.not_le] at g24
                    refine ⟨2000, _, _, _, mmay_21 .., (ob_cons ?_ (ob_cons h24 (ob_cons h23 (ob_cons h22 (ob_cons h21 (ob_cons h17 (ob_cons h13 (ob_cons h9 (ob_cons h5 (ob_cons h1 ob_nil))))))))))⟩
                    · (simp only [beq_iff_eq, beq_eq_false_iff_ne, ne_eq, decide_eq_true_eq, decide_eq_false_iff_not] at *; simp only [mayA, kAt, kFl, *]; simp; omega)
                  | false =>
                    have g24 := of_decide_eq_false h24
                    try simp only [Int.ofNat_eq_natCast, ge_iff_le, gt_iff_lt, Int.not_lt, Int.not_le] at g24
                    refine ⟨2000, _, _, _, mmay_22 .., (ob_cons ?_ (ob_cons h24 (ob_cons h23 (ob_cons h22 (ob_cons h21 (ob_cons h17 (ob_cons h13 (ob_cons h9 (ob_cons h5 (ob_cons h1 ob_nil))))))))))⟩
                    · (simp only [beq_iff_eq, beq_eq_false_iff_ne, ne_eq, decide_eq_true_eq, decide_eq_false_iff_not] at *; simp only [mayA, kAt, kFl, *]; simp; done)
                | false =>
                  have g23 := of_decide_eq_false h23
                  try simp only [Int.ofNat_eq_natCast, ge_iff_le, gt_iff_lt, Int.not_lt, Int.not_le] at g23
                  refine ⟨2000, _, _, _, mmay_23 .., (ob_cons ?_ (ob_cons h23 (ob_cons h22 (ob_cons h21 (ob_cons h17 (ob_cons h13 (ob_cons h9 (ob_cons h5 (ob_cons h1 ob_nil)))))))))⟩
                  · (simp only [beq_iff_eq, beq_eq_false_iff_ne, ne_eq, decide_eq_true_eq, decide_eq_false_iff_not] at *; simp only [mayA, kAt, kFl, *]; simp; omega)
              | false =>
                have g22 := of_decide_eq_false h22
                try simp only [Int.ofNat_eq_natCast, ge_iff_le, gt_iff_lt, Int.not_lt, Int.not_le] at g22
                refine ⟨2000, _, _, _, mmay_24 .., (ob_cons ?_ (ob_cons h22 (ob_cons h21 (ob_cons h17 (ob_cons h13 (ob_cons h9 (ob_cons h5 (ob_cons h1 ob_nil))))))))⟩
                · (simp only [beq_iff_eq, beq_eq_false_iff_ne, ne_eq, decide_eq_true_eq, decide_eq_false_iff_not] at *; simp only [mayA, kAt, kFl, *]; simp; done)
            | false =>
              cases h25 : (k == 6) with
              | true =>
                cases h26 : (decide (a ≥ 0)) with
                | true =>
                  have g26 := of_decide_eq_true h26
                  try simp only [Int.ofNat_eq_natCast, ge_iff_le, gt_iff_lt, Int.not_lt, Int.not_le] at g26
                  cases h27 : (decide (a < 32)) with
                  | true =>
                    have g27 := of_decide_eq_true h27
                    try simp only [Int.ofNat_eq_natCast, ge_iff_le, gt_iff_lt, Int.not_lt, Int.not_le] at g27
                    cases h28 : (decide (f ≥ 0)) with
                    | true =>
                      have g28 := of_decide_eq_true h28
                      try simp only [Int.ofNat_eq_natCast, ge_iff_le, gt_iff_lt, Int.not_lt, Int.not_le] at g28
                      refine ⟨2000, _, _, _, mmay_25 .., (ob_cons ?_ (ob_cons h28 (ob_cons h27 (ob_cons h26 (ob_cons h25 (ob_cons h21 (ob_cons h17 (ob_cons h13 (ob_cons h9 (ob_cons h5 (ob_cons h1 ob_nil)))))))))))⟩
                      · (simp only [beq_iff_eq, beq_eq_false_iff_ne, ne_eq, decide_eq_true_eq, decide_eq_false_iff_not] at *; simp only [mayA, kAt, kFl, *]; simp; omega)
                    | false =>
                      have g28 := of_decide_eq_false h28
                      try simp only [Int.ofNat_eq_natCast, ge_iff_le, gt_iff_lt, Int.not_lt, Int.not_le] at g28
                      refine ⟨2000, _, _, _, mmay_26 .., (ob_cons ?_ (ob_cons h28 (ob_cons h27 (ob_cons h26 (ob_cons h25 (ob_cons h21 (ob_cons h17 (ob_cons h13 (ob_cons h9 (ob_cons h5 (ob_cons h1 ob_nil)))))))))))⟩
                      · (simp only [beq_iff_eq, beq_eq_false_iff_ne, ne_eq, decide_eq_true_eq, decide_eq_false_iff_not] at *; simp only [mayA, kAt, kFl, *]; simp; done)
                  | false =>
                    have g27 := of_decide_eq_false h27
                    try simp only [Int.ofNat_eq_natCast, ge_iff_le, gt_iff_lt, Int.not_lt, Int.not_le] at g27
                    refine ⟨2000, _, _, _, mmay_27 .., (ob_cons ?_ (ob_cons h27 (ob_cons h26 (ob_cons h25 (ob_cons h21 (ob_cons h17 (ob_cons h13 (ob_cons h9 (ob_cons h5 (ob_cons h1 ob_nil))))))))))⟩
                    · (simp only [beq_iff_eq, beq_eq_false_iff_ne, ne_eq, decide_eq_true_eq, decide_eq_false_iff_not] at *; simp only [mayA, kAt, kFl, *]; simp; omega)
                | false =>
                  have g26 := of_decide_eq_false h26
                  try simp only [Int.ofNat_eq_natCast, ge_iff_le, gt_iff_lt, Int.not_lt, Int.not_le] at g26
                  refine ⟨2000, _, _, _, mmay_28 .., (ob_cons ?_ (ob_cons h26 (ob_cons h25 (ob_cons h21 (ob_cons h17 (ob_cons h13 (ob_cons h9 (ob_cons h5 (ob_cons h1 ob_nil)))))))))⟩
                  · (simp only [beq_iff_eq, beq_eq_false_iff_ne, ne_eq, decide_eq_true_eq, decide_eq_false_iff_not] at *; simp only [mayA, kAt, kFl, *]; simp; done)
              | false =>
                cases h29 : (k == 7) with
                | true =>
                  cases h30 : (decide (a ≥ 0)) with
                  | true =>
                    have g30 := of_decide_eq_true h30
                    try simp only [Int.ofNat_eq_natCast, ge_iff_le, gt_iff_lt, Int.not_lt, Int.not_le] at g30
                    cases h31 : (decide (a < 4)) with
                    | true =>
                      have g31 := of_decide_eq_true h31
                      try simp only [Int.ofNat_eq_natCast, ge_iff_le, gt_iff_lt, Int.not_lt, Int.not_le] at g31
                      cases h32 : (decide (f ≥ 0)) with
                      | true =>
                        have g32 := of_decide_eq_true h32
                        try simp only [Int.ofNat_eq_natCast, ge_iff_le, gt_iff_lt, Int.not_lt, Int.not_le] at g32
                        refine ⟨2000, _, _, _, mmay_29 .., (ob_cons ?_ (ob_cons h32 (ob_cons h31 (ob_cons h30 (ob_cons h29 (ob_cons h25 (ob_cons h21 (ob_cons h17 (ob_cons h13 (ob_cons h9 (ob_cons h5 (ob_cons h1 ob_nil))))))))))))⟩
                        · (simp only [beq_iff_eq, beq_eq_false_iff_ne, ne_eq, decide_eq_true_eq, decide_eq_false_iff_not] at *; simp only [mayA, kAt, kFl, *]; simp; omega)
                      | false =>
                        have g32 := of_decide_eq_false h32
                        try simp only [Int.ofNat_eq_natCast, ge_iff_le, gt_iff_lt, Int.not_lt, Int.not_le] at g32
                        refine ⟨2000, _, _, _, mmay_30 .., (ob_cons ?_ (ob_cons h32 (ob_cons h31 (ob_cons h30 (ob_cons h29 (ob_cons h25 (ob_cons h21 (ob_cons h17 (ob_cons h13 (ob_cons h9 (ob_cons h5 (ob_cons h1 ob_nil))))))))))))⟩
                        · (simp only [beq_iff_eq, beq_eq_false_iff_ne, ne_eq, decide_eq_true_eq, decide_eq_false_iff_not] at *; simp only [mayA, kAt, kFl, *]; simp; done)
                    | false =>
                      have g31 := of_decide_eq_false h31
                      try simp only [Int.ofNat_eq_natCast, ge_iff_le, gt_iff_lt, Int.not_lt, Int.not_le] at g31
                      refine ⟨2000, _, _, _, mmay_31 .., (ob_cons ?_ (ob_cons h31 (ob_cons h30 (ob_cons h29 (ob_cons h25 (ob_cons h21 (ob_cons h17 (ob_cons h13 (ob_cons h9 (ob_cons h5 (ob_cons h1 ob_nil)))))))))))⟩
                      · (simp only [beq_iff_eq, beq_eq_false_iff_ne, ne_eq, decide_eq_true_eq, decide_eq_false_iff_not] at *; simp only [mayA, kAt, kFl, *]; simp; omega)
                  | false =>
                    have g30 := of_decide_eq_false h30
                    try simp only [Int.ofNat_eq_natCast, ge_iff_le, gt_iff_lt, Int.not_lt, Int.not_le] at g30
                    refine ⟨2000, _, _, _, mmay_32 .., (ob_cons ?_ (ob_cons h30 (ob_cons h29 (ob_cons h25 (ob_cons h21 (ob_cons h17 (ob_cons h13 (ob_cons h9 (ob_cons h5 (ob_cons h1 ob_nil))))))))))⟩
                    · (simp only [beq_iff_eq, beq_eq_false_iff_ne, ne_eq, decide_eq_true_eq, decide_eq_false_iff_not] at *; simp only [mayA, kAt, kFl, *]; simp; done)
                | false =>
                  cases h33 : (k == 8) with
                  | true =>
                    cases h34 : (decide (a ≥ 0)) with
                    | true =>
                      have g34 := of_decide_eq_true h34
                      try simp only [Int.ofNat_eq_natCast, ge_iff_le, gt_iff_lt, Int.not_lt, Int.not_le] at g34
                      cases h35 : (decide (a < 16)) with
                      | true =>
                        have g35 := of_decide_eq_true h35
                        try simp only [Int.ofNat_eq_natCast, ge_iff_le, gt_iff_lt, Int.not_lt, Int.not_le] at g35
                        cases h36 : (decide (f ≥ 0)) with
                        | true =>
                          have g36 := of_decide_eq_true h36
                          try simp only [Int.ofNat_eq_natCast, ge_iff_le, gt_iff_lt, Int.not_lt, Int.not_le] at g36
                          refine ⟨2000, _, _, _, mmay_33 .., (ob_cons ?_ (ob_cons h36 (ob_cons h35 (ob_cons h34 (ob_cons h33 (ob_cons h29 (ob_cons h25 (ob_cons h21 (ob_cons h17 (ob_cons h13 (ob_cons h9 (ob_cons h5 (ob_cons h1 ob_nil)))))))))))))⟩
                          · (simp only [beq_iff_eq, beq_eq_false_iff_ne, ne_eq, decide_eq_true_eq, decide_eq_false_iff_not] at *; simp only [mayA, kAt, kFl, *]; simp; omega)
                        | false =>
                          have g36 := of_decide_eq_false h36
                          try simp only [Int.ofNat_eq_natCast, ge_iff_le, gt_iff_lt, Int.not_lt, Int.not_le] at g36
                          refine ⟨2000, _, _, _, mmay_34 .., (ob_cons ?_ (ob_cons h36 (ob_cons h35 (ob_cons h34 (ob_cons h33 (ob_cons h29 (ob_cons h25 (ob_cons h21 (ob_cons h17 (ob_cons h13 (ob_cons h9 (ob_cons h5 (ob_cons h1 ob_nil)))))))))))))⟩
                          · (simp only [beq_iff_eq, beq_eq_false_iff_ne, ne_eq, decide_eq_true_eq, decide_eq_false_iff_not] at *; simp only [mayA, kAt, kFl, *]; simp; done)
                      | false =>
                        have g35 := of_decide_eq_false h35
                        try simp only [Int.ofNat_eq_natCast, ge_iff_le, gt_iff_lt, Int.not_lt, Int.not_le] at g35
                        refine ⟨2000, _, _, _, mmay_35 .., (ob_cons ?_ (ob_cons h35 (ob_cons h34 (ob_cons h33 (ob_cons h29 (ob_cons h25 (ob_cons h21 (ob_cons h17 (ob_cons h13 (ob_cons h9 (ob_cons h5 (ob_cons h1 ob_nil))))))))))))⟩
                        · (simp only [beq_iff_eq, beq_eq_false_iff_ne, ne_eq, decide_eq_true_eq, decide_eq_false_iff_not] at *; simp only [mayA, kAt, kFl, *]; simp; omega)
                    | false =>
                      have g34 := of_decide_eq_false h34
                      try simp only [Int.ofNat_eq_natCast, ge_iff_le, gt_iff_lt, Int.not_lt, Int.not_le] at g34
                      refine ⟨2000, _, _, _, mmay_36 .., (ob_cons ?_ (ob_cons h34 (ob_cons h33 (ob_cons h29 (ob_cons h25 (ob_cons h21 (ob_cons h17 (ob_cons h13 (ob_cons h9 (ob_cons h5 (ob_cons h1 ob_nil)))))))))))⟩
                      · (simp only [beq_iff_eq, beq_eq_false_iff_ne, ne_eq, decide_eq_true_eq, decide_eq_false_iff_not] at *; simp only [mayA, kAt, kFl, *]; simp; done)
                  | false =>
                    cases h37 : (k == 9) with
                    | true =>
                      cases h38 : (decide (a ≥ 0)) with
                      | true =>
                        have g38 := of_decide_eq_true h38
                        try simp only [Int.ofNat_eq_natCast, ge_iff_le, gt_iff_lt, Int.not_lt, Int.not_le] at g38
                        cases h39 : (decide (a < 256)) with
                        | true =>
                          have g39 := of_decide_eq_true h39
                          try simp only [Int.ofNat_eq_natCast, ge_iff_le, gt_iff_lt, Int.not_lt, Int.not_le] at g39
                          cases h40 : (decide (f ≥ 0)) with
                          | true =>
                            have g40 := of_decide_eq_true h40
                            try simp only [Int.ofNat_eq_natCast, ge_iff_le, gt_iff_lt, Int.not_lt, Int.not_le] at g40
                            refine ⟨2000, _, _, _, mmay_37 .., (ob_cons ?_ (ob_cons h40 (ob_cons h39 (ob_cons h38 (ob_cons h37 (ob_cons h33 (ob_cons h29 (ob_cons h25 (ob_cons h21 (ob_cons h17 (ob_cons h13 (ob_cons h9 (ob_cons h5 (ob_cons h1 ob_nil))))))))))))))⟩
                            · (simp only [beq_iff_eq, beq_eq_false_iff_ne, ne_eq, decide_eq_true_eq, decide_eq_false_iff_not] at *; simp only [mayA, kAt, kFl, *]; simp; omega)
                          | false =>
                            have g40 := of_decide_eq_false h40
                            try simp only [Int.ofNat_eq_natCast, ge_iff_le, gt_iff_lt, Int.not_lt, Int.not_le] at g40
                            refine ⟨2000, _, _, _, mmay_38 .., (ob_cons ?_ (ob_cons h40 (ob_cons h39 (ob_cons h38 (ob_cons h37 (ob_cons h33 (ob_cons h29 (ob_cons h25 (ob_cons h21 (ob_cons h17 (ob_cons h13 (ob_cons h9 (ob_cons h5 (ob_cons h1 ob_nil))))))))))))))⟩
                            · (simp only [beq_iff_eq, beq_eq_false_iff_ne, ne_eq, decide_eq_true_eq, decide_eq_false_iff_not] at *; simp only [mayA, kAt, kFl, *]; simp; done)
                        | false =>
                          have g39 := of_decide_eq_false h39
                          try simp only [Int.ofNat_eq_natCast, ge_iff_le, gt_iff_lt, Int.not_lt, Int.not_le] at g39
                          refine ⟨2000, _, _, _, mmay_39 .., (ob_cons ?_ (ob_cons h39 (ob_cons h38 (ob_cons h37 (ob_cons h33 (ob_cons h29 (ob_cons h25 (ob_cons h21 (ob_cons h17 (ob_cons h13 (ob_cons h9 (ob_cons h5 (ob_cons h1 ob_nil)))))))))))))⟩
                          · (simp only [beq_iff_eq, beq_eq_false_iff_ne, ne_eq, decide_eq_true_eq, decide_eq_false_iff_not] at *; simp only [mayA, kAt, kFl, *]; simp; omega)
                      | false =>
                        have g38 := of_decide_eq_false h38
                        try simp only [Int.ofNat_eq_natCast, ge_iff_le, gt_iff_lt, Int.not_lt, Int.not_le] at g38
                        refine ⟨2000, _, _, _, mmay_40 .., (ob_cons ?_ (ob_cons h38 (ob_cons h37 (ob_cons h33 (ob_cons h29 (ob_cons h25 (ob_cons h21 (ob_cons h17 (ob_cons h13 (ob_cons h9 (ob_cons h5 (ob_cons h1 ob_nil))))))))))))⟩
                        · (simp only [beq_iff_eq, beq_eq_false_iff_ne, ne_eq, decide_eq_true_eq, decide_eq_false_iff_not] at *; simp only [mayA, kAt, kFl, *]; simp; done)
                    | false =>
                      cases h41 : (k == 10) with
                      | true =>
                        cases h42 : (decide (a ≥ 0)) with
                        | true =>
                          have g42 := of_decide_eq_true h42
                          try simp only [Int.ofNat_eq_natCast, ge_iff_le, gt_iff_lt, Int.not_lt, Int.not_le] at g42
                          cases h43 : (decide (a < 9)) with
                          | true =>
                            have g43 := of_decide_eq_true h43
                            try simp only [Int.ofNat_eq_natCast, ge_iff_le, gt_iff_lt, Int.not_lt, Int.not_le] at g43
                            cases h44 : (decide (f ≥ 0)) with
                            | true =>
                              have g44 := of_decide_eq_true h44
                              try simp only [Int.ofNat_eq_natCast, ge_iff_le, gt_iff_lt, Int.not_lt, Int.not_le] at g44
                              refine ⟨2000, _, _, _, mmay_41 .., (ob_cons ?_ (ob_cons h44 (ob_cons h43 (ob_cons h42 (ob_cons h41 (ob_cons h37 (ob_cons h33 (ob_cons h29 (ob_cons h25 (ob_cons h21 (ob_cons h17 (ob_cons h13 (ob_cons h9 (ob_cons h5 (ob_cons h1 ob_nil)))))))))))))))⟩
                              · (simp only [beq_iff_eq, beq_eq_false_iff_ne, ne_eq, decide_eq_true_eq, decide_eq_false_iff_not] at *; simp only [mayA, kAt, kFl, *]; simp; omega)
                            | false =>
                              have g44 := of_decide_eq_false h44
                              try simp only [Int.ofNat_eq_natCast, ge_iff_le, gt_iff_lt, Int.not_lt, Int.not_le] at g44
                              refine ⟨2000, _, _, _, mmay_42 .., (ob_cons ?_ (ob_cons h44 (ob_cons h43 (ob_cons h42 (ob_cons h41 (ob_cons h37 (ob_cons h33 (ob_cons h29 (ob_cons h25 (ob_cons h21 (ob_cons h17 (ob_cons h13 (ob_cons h9 (ob_cons h5 (ob_cons h1 ob_nil)))))))))))))))⟩
                              · (simp only [beq_iff_eq, beq_eq_false_iff_ne, ne_eq, decide_eq_true_eq, decide_eq_false_iff_not] at *; simp only [mayA, kAt, kFl, *]; simp; done)
                          | false =>
                            have g43 := of_decide_eq_false h43
                            try simp only [Int.ofNat_eq_natCast, ge_iff_le, gt_iff_lt, Int.not_lt, Int.not_le] at g43
                            refine ⟨2000, _, _, _, mmay_43 .., (ob_cons ?_ (ob_cons h43 (ob_cons h42 (ob_cons h41 (ob_cons h37 (ob_cons h33 (ob_cons h29 (ob_cons h25 (ob_cons h21 (ob_cons h17 (ob_cons h13 (ob_cons h9 (ob_cons h5 (ob_cons h1 ob_nil))))))))))))))⟩
                            · (simp only [beq_iff_eq, beq_eq_false_iff_ne, ne_eq, decide_eq_true_eq, decide_eq_false_iff_not] at *; simp only [mayA, kAt, kFl, *]; simp; omega)
                        | false =>
                          have g42 := of_decide_eq_false h42
                          try simp only [Int.ofNat_eq_natCast, ge_iff_le, gt_iff_lt, Int.not_lt, Int.not_le] at g42
                          refine ⟨2000, _, _, _, mmay_44 .., (ob_cons ?_ (ob_cons h42 (ob_cons h41 (ob_cons h37 (ob_cons h33 (ob_cons h29 (ob_cons h25 (ob_cons h21 (ob_cons h17 (ob_cons h13 (ob_cons h9 (ob_cons h5 (ob_cons h1 ob_nil)))))))))))))⟩
                          · (simp only [beq_iff_eq, beq_eq_false_iff_ne, ne_eq, decide_eq_true_eq, decide_eq_false_iff_not] at *; simp only [mayA, kAt, kFl, *]; simp; done)
                      | false =>
                        cases h45 : (k == 11) with
                        | true =>
                          cases h46 : (decide (a ≥ 0)) with
                          | true =>
                            have g46 := of_decide_eq_true h46
                            try simp only [Int.ofNat_eq_natCast, ge_iff_le, gt_iff_lt, Int.not_lt, Int.not_le] at g46
                            cases h47 : (decide (a < 1)) with
                            | true =>
                              have g47 := of_decide_eq_true h47
                              try simp only [Int.ofNat_eq_natCast, ge_iff_le, gt_iff_lt, Int.not_lt, Int.not_le] at g47
                              cases h48 : (decide (f ≥ 0)) with
                              | true =>
                                have g48 := of_decide_eq_true h48
                                try simp only [Int.ofNat_eq_natCast, ge_iff_le, gt_iff_lt, Int.not_lt, Int.not_le] at g48
                                refine ⟨2000, _, _, _, mmay_45 .., (ob_cons ?_ (ob_cons h48 (ob_cons h47 (ob_cons h46 (ob_cons h45 (ob_cons h41 (ob_cons h37 (ob_cons h33 (ob_cons h29 (ob_cons h25 (ob_cons h21 (ob_cons h17 (ob_cons h13 (ob_cons h9 (ob_cons h5 (ob_cons h1 ob_nil))))))))))))))))⟩
                                · (simp only [beq_iff_eq, beq_eq_false_iff_ne, ne_eq, decide_eq_true_eq, decide_eq_false_iff_not] at *; simp only [mayA, kAt, kFl, *]; simp; omega)
                              | false =>
                                have g48 := of_decide_eq_false h48
                                try simp only [Int.ofNat_eq_natCast, ge_iff_le, gt_iff_lt, Int.not_lt, Int.not_le] at g48
                                refine ⟨2000, _, _, _, mmay_46 .., (ob_cons ?_ (ob_cons h48 (ob_cons h47 (ob_cons h46 (ob_cons h45 (ob_cons h41 (ob_cons h37 (ob_cons h33 (ob_cons h29 (ob_cons h25 (ob_cons h21 (ob_cons h17 (ob_cons h13 (ob_cons h9 (ob_cons h5 (ob_cons h1 ob_nil))))))))))))))))⟩
                                · (simp only [beq_iff_eq, beq_eq_false_iff_ne, ne_eq, decide_eq_true_eq, decide_eq_false_iff_not] at *; simp only [mayA, kAt, kFl, *]; simp; done)
                            | false =>
                              have g47 := of_decide_eq_false h47
                              try simp only [Int.ofNat_eq_natCast, ge_iff_le, gt_iff_lt, Int.not_lt, Int.not_le] at g47
                              refine ⟨2000, _, _, _, mmay_47 .., (ob_cons ?_ (ob_cons h47 (ob_cons h46 (ob_cons h45 (ob_cons h41 (ob_cons h37 (ob_cons h33 (ob_cons h29 (ob_cons h25 (ob_cons h21 (ob_cons h17 (ob_cons h13 (ob_cons h9 (ob_cons h5 (ob_cons h1 ob_nil)))))))))))))))⟩
                              · (simp only [beq_iff_eq, beq_eq_false_iff_ne, ne_eq, decide_eq_true_eq, decide_eq_false_iff_not] at *; simp only [mayA, kAt, kFl, *]; simp; omega)
                          | false =>
                            have g46 := of_decide_eq_false h46
                            try simp only [Int.ofNat_eq_natCast, ge_iff_le, gt_iff_lt, Int.not_lt, Int.not_le] at g46
                            refine ⟨2000, _, _, _, mmay_48 .., (ob_cons ?_ (ob_cons h46 (ob_cons h45 (ob_cons h41 (ob_cons h37 (ob_cons h33 (ob_cons h29 (ob_cons h25 (ob_cons h21 (ob_cons h17 (ob_cons h13 (ob_cons h9 (ob_cons h5 (ob_cons h1 ob_nil))))))))))))))⟩
                            · (simp only [beq_iff_eq, beq_eq_false_iff_ne, ne_eq, decide_eq_true_eq, decide_eq_false_iff_not] at *; simp only [mayA, kAt, kFl, *]; simp; done)
                        | false =>
                          cases h49 : (decide (a ≥ 0)) with
                          | true =>
                            have g49 := of_decide_eq_true h49
                            try simp only [Int.ofNat_eq_natCast, ge_iff_le, gt_iff_lt, Int.not_lt, Int.not_le] at g49
                            refine ⟨2000, _, _, _, mmay_49 .., (ob_cons ?_ (ob_cons ?_ (ob_cons h49 (ob_cons h45 (ob_cons h41 (ob_cons h37 (ob_cons h33 (ob_cons h29 (ob_cons h25 (ob_cons h21 (ob_cons h17 (ob_cons h13 (ob_cons h9 (ob_cons h5 (ob_cons h1 ob_nil)))))))))))))))⟩
                            · (simp only [beq_iff_eq, beq_eq_false_iff_ne, ne_eq, decide_eq_true_eq, decide_eq_false_iff_not] at *; simp only [mayA, kAt, kFl, *]; simp; omega)
                            · (simp [Nat.blt_eq]; omega)
                          | false =>
                            have g49 := of_decide_eq_false h49
                            try simp only [Int.ofNat_eq_natCast, ge_iff_le, gt_iff_lt, Int.not_lt, Int.not_le] at g49
                            refine ⟨2000, _, _, _, mmay_50 .., (ob_cons ?_ (ob_cons h49 (ob_cons h45 (ob_cons h41 (ob_cons h37 (ob_cons h33 (ob_cons h29 (ob_cons h25 (ob_cons h21 (ob_cons h17 (ob_cons h13 (ob_cons h9 (ob_cons h5 (ob_cons h1 ob_nil))))))))))))))⟩
                            · (simp only [beq_iff_eq, beq_eq_false_iff_ne, ne_eq, decide_eq_true_eq, decide_eq_false_iff_not] at *; simp only [mayA, kAt, kFl, *]; simp; done)
end
noncomputable def rmaySpec : LSpec := fun la lh => match la, lh with
  | [.agg [.sym .u8 k, .sym .i64 a, .sym .i64 f]], [] => some (mayR k a f)
  | _, _ => none
theorem rmaySpec_ok (la : List AV) (lh : List (Nat × AO)) (R : LR) (h : rmaySpec la lh = some R) : LocOk Tryz.prog 260 la lh R := by
  unfold rmaySpec at h
  split at h
  · rename_i k a f
    cases h
    exact rmay_loc k a f
  · cases h

noncomputable def mmaySpec : LSpec := fun la lh => match la, lh with
  | [.agg [.sym .u8 k, .sym .i64 a, .sym .i64 f]], [] => some (mayR k a f)
  | _, _ => none
theorem mmaySpec_ok (la : List AV) (lh : List (Nat × AO)) (R : LR) (h : mmaySpec la lh = some R) : LocOk Tryz.prog 259 la lh R := by
  unfold mmaySpec at h
  split at h
  · rename_i k a f
    cases h
    exact mmay_loc k a f
  · cases h

noncomputable def EM1 : Env := envOf Tryz.prog [(260, nrm rmaySpec), (259, nrm mmaySpec)]
theorem EM1_ok : EnvOk EM1 := envOf_ok mgood ⟨nrm_ok rmaySpec_ok, nrm_ok mmaySpec_ok, trivial⟩
end Go.Proofs.YtlpcdjhojfopjaaGreatDoor
