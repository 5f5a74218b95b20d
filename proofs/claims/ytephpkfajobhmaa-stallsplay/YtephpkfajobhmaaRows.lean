/-
  No cell of these rows narrows 'for every input' (looked for: loops, veiled, ifaces, maps, wideKeys, modest, calm, conditions, laid).
  DERIVED. THE GIVEN ROWS OF THIS SEAT. 12 by the template 'for every input the law returns true; each argument reads behind the call as it read before'; 0 by the template 'total and deterministic' (their statements: YtephpkfajobhmaaTotals.lean).
  GIVEN WITH THE SEED: the statements are not yours to turn. If you find one false, say at which input.
  Laid BY PROGRAM, IN A SANDBOX (cutbox-rows.mjs): the forced cells as the released guide's own fill.sh prints them over the translation 001118a49682959e… (all of the seat's roots in one cut). By AI agents, Wed Nov 11 2026. No macro, syntax, notation, axiom, sorry.
-/
import Derived.Test.YtephpkfajobhmaaChecked
import GoSem.Claim
import GoSem.ClaimJoined
import GoSem.ClaimMapViews
import Derived.JoinedTies
import Derived.KernelRfl
namespace Go.Proofs.Ytephpkfajobhmaa
/- THE CELL 'sum', in the pinned program and in every row, IS THE sha256 OF THE DUMP (.gsa) THAT YtephpkfajobhmaaProg.lean LOADS. Nothing in Lean hashes anything: it is a label: what it is worth is what the hold of that sum in a sandbox is worth. -/
noncomputable def Try.pinned : Pinned := { name := "ytephpkfajobhmaa", sum := "001118a49682959e286355ca7a74f92ed575ed7f7cba514b1214a709cbeb05e2", checked := Try.checked }
namespace Rows
def none {H : Type} : Left H := { results := [], args := [] }

/-- 'ragpickerlaw02.MemsVoid': WHATEVER THE INPUT: true; the input reads as it did. -/
def memsVoidSpec : ChangeSpec := { name := "memsVoid", fn := fun _ => fun
  | [d1, d2, d3] => { results := [.lit (.bool true)], args := [d1, d2, d3] }
  | _ => none }
def memsVoidRow : OpenClaim := { program := "ytephpkfajobhmaa", sum := "001118a49682959e286355ca7a74f92ed575ed7f7cba514b1214a709cbeb05e2", func := "ragpicker/ragpickerlaw02.MemsVoid", spec := "memsVoid", unfollowed := true, recurses := true, plainKeys := false, apart := false }
def MemsVoidSaid : Prop := memsVoidRow.holds Try.pinned (OpenSpec.ofChange memsVoidSpec)

/-- ITS FALSE NEIGHBOUR: 'it returns false'. Refute it at one input. -/
def memsVoidWrong : ChangeSpec := { name := "memsVoid", fn := fun _ => fun
  | [d1, d2, d3] => { results := [.lit (.bool false)], args := [d1, d2, d3] }
  | _ => none }
def MemsVoidWrongFalsely : Prop := memsVoidRow.holds Try.pinned (OpenSpec.ofChange memsVoidWrong)

/-- 'ragpickerlaw02.MemsOne': WHATEVER THE INPUT: true; the input reads as it did. -/
def memsOneSpec : ChangeSpec := { name := "memsOne", fn := fun _ => fun
  | [d1, d2, d3] => { results := [.lit (.bool true)], args := [d1, d2, d3] }
  | _ => none }
def memsOneRow : OpenClaim := { program := "ytephpkfajobhmaa", sum := "001118a49682959e286355ca7a74f92ed575ed7f7cba514b1214a709cbeb05e2", func := "ragpicker/ragpickerlaw02.MemsOne", spec := "memsOne", unfollowed := true, recurses := true, plainKeys := false, apart := false }
def MemsOneSaid : Prop := memsOneRow.holds Try.pinned (OpenSpec.ofChange memsOneSpec)

/-- ITS FALSE NEIGHBOUR: 'it returns false'. Refute it at one input. -/
def memsOneWrong : ChangeSpec := { name := "memsOne", fn := fun _ => fun
  | [d1, d2, d3] => { results := [.lit (.bool false)], args := [d1, d2, d3] }
  | _ => none }
def MemsOneWrongFalsely : Prop := memsOneRow.holds Try.pinned (OpenSpec.ofChange memsOneWrong)

/-- 'ragpickerlaw02.MemsPlay': WHATEVER THE INPUT: true; the input reads as it did. -/
def memsPlaySpec : ChangeSpec := { name := "memsPlay", fn := fun _ => fun
  | [d] => { results := [.lit (.bool true)], args := [d] }
  | _ => none }
def memsPlayRow : OpenClaim := { program := "ytephpkfajobhmaa", sum := "001118a49682959e286355ca7a74f92ed575ed7f7cba514b1214a709cbeb05e2", func := "ragpicker/ragpickerlaw02.MemsPlay", spec := "memsPlay", unfollowed := true, recurses := true, plainKeys := false, apart := false }
def MemsPlaySaid : Prop := memsPlayRow.holds Try.pinned (OpenSpec.ofChange memsPlaySpec)

/-- ITS FALSE NEIGHBOUR: 'it returns false'. Refute it at one input. -/
def memsPlayWrong : ChangeSpec := { name := "memsPlay", fn := fun _ => fun
  | [d] => { results := [.lit (.bool false)], args := [d] }
  | _ => none }
def MemsPlayWrongFalsely : Prop := memsPlayRow.holds Try.pinned (OpenSpec.ofChange memsPlayWrong)

/-- 'ragpickerlaw18.StallsWhen': WHATEVER THE INPUT: true; the input reads as it did. -/
def stallsWhenSpec : ChangeSpec := { name := "stallsWhen", fn := fun _ => fun
  | [d1, d2, d3] => { results := [.lit (.bool true)], args := [d1, d2, d3] }
  | _ => none }
def stallsWhenRow : OpenClaim := { program := "ytephpkfajobhmaa", sum := "001118a49682959e286355ca7a74f92ed575ed7f7cba514b1214a709cbeb05e2", func := "ragpicker/ragpickerlaw18.StallsWhen", spec := "stallsWhen", unfollowed := true, recurses := true, plainKeys := false, apart := false }
def StallsWhenSaid : Prop := stallsWhenRow.holds Try.pinned (OpenSpec.ofChange stallsWhenSpec)

/-- ITS FALSE NEIGHBOUR: 'it returns false'. Refute it at one input. -/
def stallsWhenWrong : ChangeSpec := { name := "stallsWhen", fn := fun _ => fun
  | [d1, d2, d3] => { results := [.lit (.bool false)], args := [d1, d2, d3] }
  | _ => none }
def StallsWhenWrongFalsely : Prop := stallsWhenRow.holds Try.pinned (OpenSpec.ofChange stallsWhenWrong)

/-- 'ragpickerlaw18.StallsAny': WHATEVER THE INPUT: true; the input reads as it did. -/
def stallsAnySpec : ChangeSpec := { name := "stallsAny", fn := fun _ => fun
  | [d1, d2, d3] => { results := [.lit (.bool true)], args := [d1, d2, d3] }
  | _ => none }
def stallsAnyRow : OpenClaim := { program := "ytephpkfajobhmaa", sum := "001118a49682959e286355ca7a74f92ed575ed7f7cba514b1214a709cbeb05e2", func := "ragpicker/ragpickerlaw18.StallsAny", spec := "stallsAny", unfollowed := true, recurses := true, plainKeys := false, apart := false }
def StallsAnySaid : Prop := stallsAnyRow.holds Try.pinned (OpenSpec.ofChange stallsAnySpec)

/-- ITS FALSE NEIGHBOUR: 'it returns false'. Refute it at one input. -/
def stallsAnyWrong : ChangeSpec := { name := "stallsAny", fn := fun _ => fun
  | [d1, d2, d3] => { results := [.lit (.bool false)], args := [d1, d2, d3] }
  | _ => none }
def StallsAnyWrongFalsely : Prop := stallsAnyRow.holds Try.pinned (OpenSpec.ofChange stallsAnyWrong)

/-- 'ragpickerlaw18.StallsPin': WHATEVER THE INPUT: true; the input reads as it did. -/
def stallsPinSpec : ChangeSpec := { name := "stallsPin", fn := fun _ => fun
  | [d1, d2, d3] => { results := [.lit (.bool true)], args := [d1, d2, d3] }
  | _ => none }
def stallsPinRow : OpenClaim := { program := "ytephpkfajobhmaa", sum := "001118a49682959e286355ca7a74f92ed575ed7f7cba514b1214a709cbeb05e2", func := "ragpicker/ragpickerlaw18.StallsPin", spec := "stallsPin", unfollowed := true, recurses := true, plainKeys := false, apart := false }
def StallsPinSaid : Prop := stallsPinRow.holds Try.pinned (OpenSpec.ofChange stallsPinSpec)

/-- ITS FALSE NEIGHBOUR: 'it returns false'. Refute it at one input. -/
def stallsPinWrong : ChangeSpec := { name := "stallsPin", fn := fun _ => fun
  | [d1, d2, d3] => { results := [.lit (.bool false)], args := [d1, d2, d3] }
  | _ => none }
def StallsPinWrongFalsely : Prop := stallsPinRow.holds Try.pinned (OpenSpec.ofChange stallsPinWrong)

/-- 'ragpickerlaw18.StallsPlay': WHATEVER THE INPUT: true; the input reads as it did. -/
def stallsPlaySpec : ChangeSpec := { name := "stallsPlay", fn := fun _ => fun
  | [d] => { results := [.lit (.bool true)], args := [d] }
  | _ => none }
def stallsPlayRow : OpenClaim := { program := "ytephpkfajobhmaa", sum := "001118a49682959e286355ca7a74f92ed575ed7f7cba514b1214a709cbeb05e2", func := "ragpicker/ragpickerlaw18.StallsPlay", spec := "stallsPlay", unfollowed := true, recurses := true, plainKeys := false, apart := false }
def StallsPlaySaid : Prop := stallsPlayRow.holds Try.pinned (OpenSpec.ofChange stallsPlaySpec)

/-- ITS FALSE NEIGHBOUR: 'it returns false'. Refute it at one input. -/
def stallsPlayWrong : ChangeSpec := { name := "stallsPlay", fn := fun _ => fun
  | [d] => { results := [.lit (.bool false)], args := [d] }
  | _ => none }
def StallsPlayWrongFalsely : Prop := stallsPlayRow.holds Try.pinned (OpenSpec.ofChange stallsPlayWrong)

/-- 'ragpickerlaw14.SnapsStill': WHATEVER THE INPUT: true; the input reads as it did. -/
def snapsStillSpec : ChangeSpec := { name := "snapsStill", fn := fun _ => fun
  | [d1, d2] => { results := [.lit (.bool true)], args := [d1, d2] }
  | _ => none }
def snapsStillRow : OpenClaim := { program := "ytephpkfajobhmaa", sum := "001118a49682959e286355ca7a74f92ed575ed7f7cba514b1214a709cbeb05e2", func := "ragpicker/ragpickerlaw14.SnapsStill", spec := "snapsStill", unfollowed := true, recurses := true, plainKeys := false, apart := false }
def SnapsStillSaid : Prop := snapsStillRow.holds Try.pinned (OpenSpec.ofChange snapsStillSpec)

/-- ITS FALSE NEIGHBOUR: 'it returns false'. Refute it at one input. -/
def snapsStillWrong : ChangeSpec := { name := "snapsStill", fn := fun _ => fun
  | [d1, d2] => { results := [.lit (.bool false)], args := [d1, d2] }
  | _ => none }
def SnapsStillWrongFalsely : Prop := snapsStillRow.holds Try.pinned (OpenSpec.ofChange snapsStillWrong)

/-- 'ragpickerlaw14.SnapsPlay': WHATEVER THE INPUT: true; the input reads as it did. -/
def snapsPlaySpec : ChangeSpec := { name := "snapsPlay", fn := fun _ => fun
  | [d1, d2] => { results := [.lit (.bool true)], args := [d1, d2] }
  | _ => none }
def snapsPlayRow : OpenClaim := { program := "ytephpkfajobhmaa", sum := "001118a49682959e286355ca7a74f92ed575ed7f7cba514b1214a709cbeb05e2", func := "ragpicker/ragpickerlaw14.SnapsPlay", spec := "snapsPlay", unfollowed := true, recurses := true, plainKeys := false, apart := false }
def SnapsPlaySaid : Prop := snapsPlayRow.holds Try.pinned (OpenSpec.ofChange snapsPlaySpec)

/-- ITS FALSE NEIGHBOUR: 'it returns false'. Refute it at one input. -/
def snapsPlayWrong : ChangeSpec := { name := "snapsPlay", fn := fun _ => fun
  | [d1, d2] => { results := [.lit (.bool false)], args := [d1, d2] }
  | _ => none }
def SnapsPlayWrongFalsely : Prop := snapsPlayRow.holds Try.pinned (OpenSpec.ofChange snapsPlayWrong)

/-- 'ragpickerlaw15.EpochsPlay': WHATEVER THE INPUT: true; the input reads as it did. -/
def epochsPlaySpec : ChangeSpec := { name := "epochsPlay", fn := fun _ => fun
  | [d1, d2] => { results := [.lit (.bool true)], args := [d1, d2] }
  | _ => none }
def epochsPlayRow : OpenClaim := { program := "ytephpkfajobhmaa", sum := "001118a49682959e286355ca7a74f92ed575ed7f7cba514b1214a709cbeb05e2", func := "ragpicker/ragpickerlaw15.EpochsPlay", spec := "epochsPlay", unfollowed := true, recurses := true, plainKeys := false, apart := false }
def EpochsPlaySaid : Prop := epochsPlayRow.holds Try.pinned (OpenSpec.ofChange epochsPlaySpec)

/-- ITS FALSE NEIGHBOUR: 'it returns false'. Refute it at one input. -/
def epochsPlayWrong : ChangeSpec := { name := "epochsPlay", fn := fun _ => fun
  | [d1, d2] => { results := [.lit (.bool false)], args := [d1, d2] }
  | _ => none }
def EpochsPlayWrongFalsely : Prop := epochsPlayRow.holds Try.pinned (OpenSpec.ofChange epochsPlayWrong)

/-- 'ragpickerlaw17.ErasPlay': WHATEVER THE INPUT: true; the input reads as it did. -/
def erasPlaySpec : ChangeSpec := { name := "erasPlay", fn := fun _ => fun
  | [d1, d2] => { results := [.lit (.bool true)], args := [d1, d2] }
  | _ => none }
def erasPlayRow : OpenClaim := { program := "ytephpkfajobhmaa", sum := "001118a49682959e286355ca7a74f92ed575ed7f7cba514b1214a709cbeb05e2", func := "ragpicker/ragpickerlaw17.ErasPlay", spec := "erasPlay", unfollowed := true, recurses := true, plainKeys := false, apart := false }
def ErasPlaySaid : Prop := erasPlayRow.holds Try.pinned (OpenSpec.ofChange erasPlaySpec)

/-- ITS FALSE NEIGHBOUR: 'it returns false'. Refute it at one input. -/
def erasPlayWrong : ChangeSpec := { name := "erasPlay", fn := fun _ => fun
  | [d1, d2] => { results := [.lit (.bool false)], args := [d1, d2] }
  | _ => none }
def ErasPlayWrongFalsely : Prop := erasPlayRow.holds Try.pinned (OpenSpec.ofChange erasPlayWrong)

/-- 'ragpickerlaw15.EpochsHold': WHATEVER THE INPUT: true; the input reads as it did. -/
def epochsHoldSpec : ChangeSpec := { name := "epochsHold", fn := fun _ => fun
  | [d1, d2] => { results := [.lit (.bool true)], args := [d1, d2] }
  | _ => none }
def epochsHoldRow : OpenClaim := { program := "ytephpkfajobhmaa", sum := "001118a49682959e286355ca7a74f92ed575ed7f7cba514b1214a709cbeb05e2", func := "ragpicker/ragpickerlaw15.EpochsHold", spec := "epochsHold", unfollowed := true, recurses := true, plainKeys := false, apart := false }
def EpochsHoldSaid : Prop := epochsHoldRow.holds Try.pinned (OpenSpec.ofChange epochsHoldSpec)

/-- ITS FALSE NEIGHBOUR: 'it returns false'. Refute it at one input. -/
def epochsHoldWrong : ChangeSpec := { name := "epochsHold", fn := fun _ => fun
  | [d1, d2] => { results := [.lit (.bool false)], args := [d1, d2] }
  | _ => none }
def EpochsHoldWrongFalsely : Prop := epochsHoldRow.holds Try.pinned (OpenSpec.ofChange epochsHoldWrong)

/- THE SECOND FORM. 'bulk': how many values and letters a reading holds, each counted each time it is reached (what is shared counts as often as it is met; a slice's spare places count too). A statement '..UptoSaid' is the law's where the arguments, and the package variables that the reading takes, are together of bulk at most 1048576: NARROWER than '..Said'. Prove '..Said' where nothing that the law and all that it calls make is longer than what came in: it says more and counts as full. Else prove '..UptoSaid'. A law counts once. -/
mutual
def uptoBulk {H : Type} : DataW H → Nat
  | .lit (.string bytes) => bytes.length + 1
  | .lit _ => 1
  | .nil => 1
  | .ptr d => uptoBulk d + 1
  | .slice elems spare => uptoBulkAll elems + uptoBulkAll spare + 1
  | .agg parts => uptoBulkAll parts + 1
  | .iface _ d => uptoBulk d + 1
  | .map entries => uptoBulkEntries entries + 1
  | .held _ => 1
def uptoBulkAll {H : Type} : List (DataW H) → Nat
  | [] => 0
  | d :: r => uptoBulk d + uptoBulkAll r
def uptoBulkEntries {H : Type} : List (Lit × DataW H) → Nat
  | [] => 0
  | x :: r => uptoBulkEntry x + uptoBulkEntries r
def uptoBulkEntry {H : Type} : Lit × DataW H → Nat
  | (.string bytes, d) => bytes.length + uptoBulk d + 1
  | (_, d) => uptoBulk d + 1
 end
def uptoSmall : (H : Type) → List (DataW H) → Bool := fun _ ds => decide (uptoBulkAll ds ≤ 1048576)
def OpenSpec.upto (s : _root_.Go.ChangeSpec) : _root_.Go.OpenSpec := { _root_.Go.OpenSpec.ofChange s with cond := some uptoSmall }

/-- 'ragpickerlaw02.MemsVoid', WHERE WHAT IT READS IS OF BULK AT MOST 1048576: true; the input reads as it did. -/
def memsVoidUptoRow : OpenClaim := { program := "ytephpkfajobhmaa", sum := "001118a49682959e286355ca7a74f92ed575ed7f7cba514b1214a709cbeb05e2", func := "ragpicker/ragpickerlaw02.MemsVoid", spec := "memsVoid", unfollowed := true, recurses := true, plainKeys := false, apart := false, narrowed := true }
def MemsVoidUptoSaid : Prop := memsVoidUptoRow.holds Try.pinned (OpenSpec.upto memsVoidSpec)

/-- 'ragpickerlaw02.MemsOne', WHERE WHAT IT READS IS OF BULK AT MOST 1048576: true; the input reads as it did. -/
def memsOneUptoRow : OpenClaim := { program := "ytephpkfajobhmaa", sum := "001118a49682959e286355ca7a74f92ed575ed7f7cba514b1214a709cbeb05e2", func := "ragpicker/ragpickerlaw02.MemsOne", spec := "memsOne", unfollowed := true, recurses := true, plainKeys := false, apart := false, narrowed := true }
def MemsOneUptoSaid : Prop := memsOneUptoRow.holds Try.pinned (OpenSpec.upto memsOneSpec)

/-- 'ragpickerlaw02.MemsPlay', WHERE WHAT IT READS IS OF BULK AT MOST 1048576: true; the input reads as it did. -/
def memsPlayUptoRow : OpenClaim := { program := "ytephpkfajobhmaa", sum := "001118a49682959e286355ca7a74f92ed575ed7f7cba514b1214a709cbeb05e2", func := "ragpicker/ragpickerlaw02.MemsPlay", spec := "memsPlay", unfollowed := true, recurses := true, plainKeys := false, apart := false, narrowed := true }
def MemsPlayUptoSaid : Prop := memsPlayUptoRow.holds Try.pinned (OpenSpec.upto memsPlaySpec)

/-- 'ragpickerlaw18.StallsWhen', WHERE WHAT IT READS IS OF BULK AT MOST 1048576: true; the input reads as it did. -/
def stallsWhenUptoRow : OpenClaim := { program := "ytephpkfajobhmaa", sum := "001118a49682959e286355ca7a74f92ed575ed7f7cba514b1214a709cbeb05e2", func := "ragpicker/ragpickerlaw18.StallsWhen", spec := "stallsWhen", unfollowed := true, recurses := true, plainKeys := false, apart := false, narrowed := true }
def StallsWhenUptoSaid : Prop := stallsWhenUptoRow.holds Try.pinned (OpenSpec.upto stallsWhenSpec)

/-- 'ragpickerlaw18.StallsAny', WHERE WHAT IT READS IS OF BULK AT MOST 1048576: true; the input reads as it did. -/
def stallsAnyUptoRow : OpenClaim := { program := "ytephpkfajobhmaa", sum := "001118a49682959e286355ca7a74f92ed575ed7f7cba514b1214a709cbeb05e2", func := "ragpicker/ragpickerlaw18.StallsAny", spec := "stallsAny", unfollowed := true, recurses := true, plainKeys := false, apart := false, narrowed := true }
def StallsAnyUptoSaid : Prop := stallsAnyUptoRow.holds Try.pinned (OpenSpec.upto stallsAnySpec)

/-- 'ragpickerlaw18.StallsPin', WHERE WHAT IT READS IS OF BULK AT MOST 1048576: true; the input reads as it did. -/
def stallsPinUptoRow : OpenClaim := { program := "ytephpkfajobhmaa", sum := "001118a49682959e286355ca7a74f92ed575ed7f7cba514b1214a709cbeb05e2", func := "ragpicker/ragpickerlaw18.StallsPin", spec := "stallsPin", unfollowed := true, recurses := true, plainKeys := false, apart := false, narrowed := true }
def StallsPinUptoSaid : Prop := stallsPinUptoRow.holds Try.pinned (OpenSpec.upto stallsPinSpec)

/-- 'ragpickerlaw18.StallsPlay', WHERE WHAT IT READS IS OF BULK AT MOST 1048576: true; the input reads as it did. -/
def stallsPlayUptoRow : OpenClaim := { program := "ytephpkfajobhmaa", sum := "001118a49682959e286355ca7a74f92ed575ed7f7cba514b1214a709cbeb05e2", func := "ragpicker/ragpickerlaw18.StallsPlay", spec := "stallsPlay", unfollowed := true, recurses := true, plainKeys := false, apart := false, narrowed := true }
def StallsPlayUptoSaid : Prop := stallsPlayUptoRow.holds Try.pinned (OpenSpec.upto stallsPlaySpec)

/-- 'ragpickerlaw14.SnapsStill', WHERE WHAT IT READS IS OF BULK AT MOST 1048576: true; the input reads as it did. -/
def snapsStillUptoRow : OpenClaim := { program := "ytephpkfajobhmaa", sum := "001118a49682959e286355ca7a74f92ed575ed7f7cba514b1214a709cbeb05e2", func := "ragpicker/ragpickerlaw14.SnapsStill", spec := "snapsStill", unfollowed := true, recurses := true, plainKeys := false, apart := false, narrowed := true }
def SnapsStillUptoSaid : Prop := snapsStillUptoRow.holds Try.pinned (OpenSpec.upto snapsStillSpec)

/-- 'ragpickerlaw14.SnapsPlay', WHERE WHAT IT READS IS OF BULK AT MOST 1048576: true; the input reads as it did. -/
def snapsPlayUptoRow : OpenClaim := { program := "ytephpkfajobhmaa", sum := "001118a49682959e286355ca7a74f92ed575ed7f7cba514b1214a709cbeb05e2", func := "ragpicker/ragpickerlaw14.SnapsPlay", spec := "snapsPlay", unfollowed := true, recurses := true, plainKeys := false, apart := false, narrowed := true }
def SnapsPlayUptoSaid : Prop := snapsPlayUptoRow.holds Try.pinned (OpenSpec.upto snapsPlaySpec)

/-- 'ragpickerlaw15.EpochsPlay', WHERE WHAT IT READS IS OF BULK AT MOST 1048576: true; the input reads as it did. -/
def epochsPlayUptoRow : OpenClaim := { program := "ytephpkfajobhmaa", sum := "001118a49682959e286355ca7a74f92ed575ed7f7cba514b1214a709cbeb05e2", func := "ragpicker/ragpickerlaw15.EpochsPlay", spec := "epochsPlay", unfollowed := true, recurses := true, plainKeys := false, apart := false, narrowed := true }
def EpochsPlayUptoSaid : Prop := epochsPlayUptoRow.holds Try.pinned (OpenSpec.upto epochsPlaySpec)

/-- 'ragpickerlaw17.ErasPlay', WHERE WHAT IT READS IS OF BULK AT MOST 1048576: true; the input reads as it did. -/
def erasPlayUptoRow : OpenClaim := { program := "ytephpkfajobhmaa", sum := "001118a49682959e286355ca7a74f92ed575ed7f7cba514b1214a709cbeb05e2", func := "ragpicker/ragpickerlaw17.ErasPlay", spec := "erasPlay", unfollowed := true, recurses := true, plainKeys := false, apart := false, narrowed := true }
def ErasPlayUptoSaid : Prop := erasPlayUptoRow.holds Try.pinned (OpenSpec.upto erasPlaySpec)

/-- 'ragpickerlaw15.EpochsHold', WHERE WHAT IT READS IS OF BULK AT MOST 1048576: true; the input reads as it did. -/
def epochsHoldUptoRow : OpenClaim := { program := "ytephpkfajobhmaa", sum := "001118a49682959e286355ca7a74f92ed575ed7f7cba514b1214a709cbeb05e2", func := "ragpicker/ragpickerlaw15.EpochsHold", spec := "epochsHold", unfollowed := true, recurses := true, plainKeys := false, apart := false, narrowed := true }
def EpochsHoldUptoSaid : Prop := epochsHoldUptoRow.holds Try.pinned (OpenSpec.upto epochsHoldSpec)

end Rows
end Go.Proofs.Ytephpkfajobhmaa
