/-
  ErasHold: the loop over the moves: definitions.
-/
import Derived.Test.YtmlfmmnnbdlabaaNHdDef
set_option linter.unusedSimpArgs false
set_option linter.unusedVariables false
namespace Go.Proofs.Ytmlfmmnnbdlabaa
open Go.Ev

/-- A move: how far the era goes. -/
def hdW (now mv : Int) : Int := IntKind.u64.wrap (now + IntKind.u64.wrap (mv.tmod 3))
def hdV (X : MS) (w : Int) : Int := IntKind.u64.wrap (mget (memPut X.M 2 0 0 w) (key 2 0 0) + 1)
noncomputable def hdC (mv : Int) (s : HS) : HS := ⟨mStore s.X 2 0 0 (hdW s.now mv), hdW s.now mv, s.high, s.hi⟩
noncomputable def hdY (mv : Int) (s : HS) : HS := ⟨mLoad (mStore s.X 2 0 0 (hdW s.now mv)) 2 0 0, hdW s.now mv, hdW s.now mv, s.hi⟩
noncomputable def hdM (mv : Int) (s : HS) : HS := ⟨mStore (mLoad (mStore s.X 2 0 0 (hdW s.now mv)) 2 0 0) 8 3 5 (hdV s.X (hdW s.now mv)), hdW s.now mv, hdW s.now mv, hdV s.X (hdW s.now mv)⟩
noncomputable def hdS (mv : Int) (s : HS) : HS := if (IntKind.u8.wrap (mv.tdiv 3)).tmod 2 = 1 then hdC mv s else if hdV s.X (hdW s.now mv) = s.hi then hdY mv s else hdM mv s
noncomputable def hdN (g : Nat → Nat → AV) (s0 : HS) : Nat → HS
  | 0 => s0
  | k + 1 => hdS (avInt (g (0 + k) 0)) (hdN g s0 k)
theorem hdN_succ (g : Nat → Nat → AV) (s0 : HS) (k : Nat) : hdN g s0 (k + 1) = hdS (avInt (g (0 + k) 0)) (hdN g s0 k) := rfl

end Go.Proofs.Ytmlfmmnnbdlabaa
