/-
  The document's words: definitions.
-/
import Derived.Test.YtlpcdjhojfopjaaGreatDoorZR2
import Derived.Test.YtlpcdjhojfopjaaGreatDoorZR3
set_option linter.unusedSimpArgs false
set_option linter.unusedVariables false
namespace Go.Proofs.YtlpcdjhojfopjaaGreatDoor
open Go.Ev
noncomputable def ER4 : Env := envG Tryz.prog [(270, locSP rfldSpec), (265, locSP rputSpec)]
theorem ER4_ok : EnvOk ER4 := envG_ok mgood ⟨locSP_ok rfldSpec_ok, locSP_ok rputSpec_ok, trivial⟩

noncomputable def rashH (w : Int) : List (Nat × AO) := []
noncomputable def rashR (w : Int) : LR := ⟨0, .tup [.sym .i64 (hSlot w), .sym .u64 (hTag w)], [], 0, [], [0 ≤ w, w < 18446744073709551616]⟩
noncomputable def rhdH (s t : Int) : List (Nat × AO) := []
noncomputable def rhdR (s t : Int) : LR := ⟨0, .sym .u64 (hHead s t), [], 0, [], [0 ≤ t, t < 18446744073709551616]⟩
noncomputable def rahrH (w : Int) : List (Nat × AO) := []
noncomputable def rahrR (w : Int) : LR := ⟨0, .tup [.sym .u8 (hdrS w), .sym .u32 (hdrG w)], [], 0, [], [0 ≤ w, w < 18446744073709551616]⟩
noncomputable def rhdrH (s g : Int) : List (Nat × AO) := []
noncomputable def rhdrR (s g : Int) : LR := ⟨0, .sym .u64 (hdr s g), [], 0, [], [0 ≤ s, s < 256, 0 ≤ g, g < 4294967296]⟩
noncomputable def rabH (w : Int) : List (Nat × AO) := []
noncomputable def rabR (w : Int) : LR := ⟨0, .tup [.sym .u32 (bkN w), .symb (bkC w)], [], 0, [], [0 ≤ w, w < 18446744073709551616]⟩
noncomputable def rbkfH (n : Int) : List (Nat × AO) := []
noncomputable def rbkfR (n : Int) : LR := ⟨0, .sym .u64 (bk n false), [], 0, [], [0 ≤ n, n < 4294967296]⟩
noncomputable def rbktH (n : Int) : List (Nat × AO) := []
noncomputable def rbktR (n : Int) : LR := ⟨0, .sym .u64 (bk n true), [], 0, [], [0 ≤ n, n < 4294967296]⟩
noncomputable def rbkR (n : Int) (c : Bool) : LR := ⟨0, .sym .u64 (bk n c), [], 0, [], [0 ≤ n, n < 4294967296]⟩
end Go.Proofs.YtlpcdjhojfopjaaGreatDoor
