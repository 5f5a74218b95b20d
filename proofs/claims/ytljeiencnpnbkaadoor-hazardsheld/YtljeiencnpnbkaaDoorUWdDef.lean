/-
  Words: definitions.
-/
import Derived.Test.YtljeiencnpnbkaaDoorUMemDef
import Derived.Test.YtljeiencnpnbkaaDoorEvBits
set_option linter.unusedSimpArgs false
set_option linter.unusedVariables false
namespace Go.Proofs.YtljeiencnpnbkaaDoor
open Go.Ev

noncomputable def ashH (w : Int) : List (Nat × AO) := [(gnm 0, tabAO tab)]
noncomputable def ashR (w : Int) : LR := ⟨0, .tup [.sym .i64 (hSlot w), .sym .u64 (hTag w)], [(gnm 0, tabAO tab)], 0, [], [0 ≤ w, w < 18446744073709551616]⟩
noncomputable def hdH (s t : Int) : List (Nat × AO) := [(gnm 0, tabAO tab)]
noncomputable def hdR (s t : Int) : LR := ⟨0, .sym .u64 (hHead s t), [(gnm 0, tabAO tab)], 0, [], [0 ≤ t, t < 18446744073709551616]⟩
noncomputable def ahrH (w : Int) : List (Nat × AO) := [(gnm 0, tabAO tab)]
noncomputable def ahrR (w : Int) : LR := ⟨0, .tup [.sym .u8 (hdrS w), .sym .u32 (hdrG w)], [(gnm 0, tabAO tab)], 0, [], [0 ≤ w, w < 18446744073709551616]⟩
noncomputable def hdrH (s t : Int) : List (Nat × AO) := [(gnm 0, tabAO tab)]
noncomputable def hdrR (s t : Int) : LR := ⟨0, .sym .u64 (hdr s t), [(gnm 0, tabAO tab)], 0, [], [0 ≤ s, s < 256, 0 ≤ t, t < 4294967296]⟩
noncomputable def asbH (w : Int) : List (Nat × AO) := [(gnm 0, tabAO tab)]
noncomputable def asbR (w : Int) : LR := ⟨0, .tup [.sym .u32 (bkN w), .symb (bkC w)], [(gnm 0, tabAO tab)], 0, [], [0 ≤ w, w < 18446744073709551616]⟩
noncomputable def blkfH (n : Int) : List (Nat × AO) := [(gnm 0, tabAO tab)]
noncomputable def blkfR (n : Int) : LR := ⟨0, .sym .u64 (bk n false), [(gnm 0, tabAO tab)], 0, [], [0 ≤ n, n < 4294967296]⟩
noncomputable def blktH (n : Int) : List (Nat × AO) := [(gnm 0, tabAO tab)]
noncomputable def blktR (n : Int) : LR := ⟨0, .sym .u64 (bk n true), [(gnm 0, tabAO tab)], 0, [], [0 ≤ n, n < 4294967296]⟩
noncomputable def blkR (n : Int) (c : Bool) : LR := ⟨0, .sym .u64 (bk n c), [(gnm 0, tabAO tab)], 0, [], [0 ≤ n, n < 4294967296]⟩
end Go.Proofs.YtljeiencnpnbkaaDoor
