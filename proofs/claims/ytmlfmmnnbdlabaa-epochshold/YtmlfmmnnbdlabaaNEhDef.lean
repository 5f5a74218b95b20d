/-
  EpochsHold: its states.
-/
import Derived.Test.YtmlfmmnnbdlabaaEhLaw
import Derived.Test.YtmlfmmnnbdlabaaEvFx
import Derived.Test.YtmlfmmnnbdlabaaEvFg
import Derived.Test.YtmlfmmnnbdlabaaNMemOps
set_option linter.unusedSimpArgs false
set_option linter.unusedVariables false
namespace Go.Proofs.Ytmlfmmnnbdlabaa
open Go.Ev
theorem hd_t {a w : Int} (h0 : 0 ≤ a) (h1 : a ≤ w) (h2 : w ≤ a + 1) (hw : w < 9223372036854775808) : decide (w < a) = false ∧ decide (w > IntKind.u64.wrap (a + 1)) = false ∧ decide (w ≥ a) = true ∧ decide (IntKind.u64.wrap (w - a) ≥ 2) = false := by
  have e1 : IntKind.u64.wrap (a + 1) = (a + 1) % 18446744073709551616 := rfl
  have e2 : IntKind.u64.wrap (w - a) = (w - a) % 18446744073709551616 := rfl
  rw [e1, e2]
  refine ⟨decide_eq_false (by omega), decide_eq_false (by omega), decide_eq_true (by omega), decide_eq_false (by omega)⟩
def hdSh : List CK := [.bool, .int .u64, .val, .val, .val]
def hdMb (k : Nat) (o : HO) : Mb := match o.t with
  | 0 => ⟨[.symb o.i, .sym .u64 o.a, .nilp, .nilp, .nilp], []⟩
  | 1 => ⟨[.symb o.i, .sym .u64 o.a, .ptr 0 0 0, .nilp, .nilp], [(0, .cells 3 [.int .i64 4, .sym .u64 o.e, .sym .i64 (Int.ofNat k)])]⟩
  | 2 => ⟨[.symb o.i, .sym .u64 o.a, .nilp, .nilp, .ptr 0 0 0], [(0, .cells 5 [.int .i64 2, .sym .u64 o.e, .int .i64 0, .int .i64 0, .bool false])]⟩
  | 3 => ⟨[.symb o.i, .sym .u64 o.a, .nilp, .nilp, .ptr 0 0 0], [(0, .cells 5 [.int .i64 3, .sym .u64 o.e, .sym .i64 o.p, .sym .i64 8, .bool false])]⟩
  | _ => ⟨[.symb o.i, .sym .u64 o.a, .nilp, .nilp, .ptr 0 0 0], [(0, .cells 5 [.int .i64 4, .sym .u64 o.e, .sym .i64 8, .sym .i64 8, .bool false])]⟩
noncomputable def hdF : Fam := ⟨fam0, 1, 5, hdSh, 5⟩
noncomputable def Ehd : Env := envG Try.prog memSpecs
theorem Ehd_ok : EnvOk Ehd := envG_ok mgood memSpecs_ok
section
variable (m : Nat) (f : Nat → Nat → AV) (e0 : Int)
def hdS0 : MS := mStore (mStore ms0 1 0 0 (e0.tmod 1099511627776)) 5 0 0 2
noncomputable def hdU : St := ⟨[.top, .ss 1 1 0 m none, .top, .top, .top, .ptr 3 0 0, .xs 5 4 0 8 (some 8), .sym .u64 (e0.tmod 1099511627776), .int .i64 0] ++ List.replicate 99 .top, ⟨[(4, .cells 5 (repeatL [.bool false, .int .u64 0, .nilp, .nilp, .nilp] 8)), (3, .cells 9 (.map 2 :: (lastL 2 5 0 0 0 2 false).cons (.sym .i64 2))), (2, .map 128 (hdS0 e0).M), (1, .arr 1 [.int .u8] true m f)], 5, gnm 0, [], [], [3, 2], false⟩⟩
noncomputable def hdT (i : Nat) (x : HX) : FSt := ⟨[.top, .ss 1 1 0 m none, .top, .top, .top, .ptr 3 0 0, .ss 5 5 0 8 (some 8), .sym .u64 (hdE x.S), .sym .i64 (Int.ofNat i)] ++ List.replicate 99 .top, [(3, .cells 9 (.map 2 :: .sym .i64 x.S.st :: x.S.L.l)), (2, .map 128 x.S.M), (1, .arr 1 [.int .u8] true m f)], 8, fun k => hdMb k (x.O k), [4, 3, 2]⟩
noncomputable def hdX (S : MS) : St := ⟨[.top, .ss 1 1 0 m none] ++ List.replicate 106 .top, ⟨[(3, .cells 9 (.map 2 :: .sym .i64 S.st :: S.L.l)), (2, .map 128 S.M), (1, .arr 1 [.int .u8] true m f)], 6, gnm 0, [], [], [4, 3, 2], false⟩⟩
noncomputable abbrev hdL : Code := loopAt Try.prog 5 0
end
end Go.Proofs.Ytmlfmmnnbdlabaa
