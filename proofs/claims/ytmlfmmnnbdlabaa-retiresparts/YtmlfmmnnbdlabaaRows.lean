/-
  No cell of these rows narrows 'for every input' (looked for: loops, veiled, ifaces, maps, wideKeys, modest, calm, conditions, laid).
  DERIVED. THE GIVEN ROWS OF THIS SEAT. 8 by the template 'for every input the law returns true; each argument reads behind the call as it read before'; 0 by the template 'total and deterministic' (their statements: YtmlfmmnnbdlabaaTotals.lean).
  GIVEN WITH THE SEED: the statements are not yours to turn. If you find one false, say at which input.
  Laid BY PROGRAM, IN A SANDBOX (cutbox-rows.mjs): the forced cells as the released guide's own fill.sh prints them over the translation fe476edc0f3af964… (all of the seat's roots in one cut). By AI agents, Wed Nov 11 2026. No macro, syntax, notation, axiom, sorry.
-/
import Derived.Test.YtmlfmmnnbdlabaaChecked
import GoSem.Claim
import GoSem.ClaimJoined
import GoSem.ClaimMapViews
import Derived.JoinedTies
import Derived.KernelRfl
namespace Go.Proofs.Ytmlfmmnnbdlabaa
/- THE CELL 'sum', in the pinned program and in every row, IS THE sha256 OF THE DUMP (.gsa) THAT YtmlfmmnnbdlabaaProg.lean LOADS. Nothing in Lean hashes anything: it is a label: what it is worth is what the hold of that sum in a sandbox is worth. -/
noncomputable def Try.pinned : Pinned := { name := "ytmlfmmnnbdlabaa", sum := "fe476edc0f3af964f5f4186f3c8461be7a1f307220bbe10299d6d0dd81c14620", checked := Try.checked }
namespace Rows
def none {H : Type} : Left H := { results := [], args := [] }

/-- 'ragpickerlaw13.RetiresParts': WHATEVER THE INPUT: true; the input reads as it did. -/
def retiresPartsSpec : ChangeSpec := { name := "retiresParts", fn := fun _ => fun
  | [d1, d2] => { results := [.lit (.bool true)], args := [d1, d2] }
  | _ => none }
def retiresPartsRow : OpenClaim := { program := "ytmlfmmnnbdlabaa", sum := "fe476edc0f3af964f5f4186f3c8461be7a1f307220bbe10299d6d0dd81c14620", func := "ragpicker/ragpickerlaw13.RetiresParts", spec := "retiresParts", plainKeys := false, apart := false }
def RetiresPartsSaid : Prop := retiresPartsRow.holds Try.pinned (OpenSpec.ofChange retiresPartsSpec)

/-- ITS FALSE NEIGHBOUR: 'it returns false'. Refute it at one input. -/
def retiresPartsWrong : ChangeSpec := { name := "retiresParts", fn := fun _ => fun
  | [d1, d2] => { results := [.lit (.bool false)], args := [d1, d2] }
  | _ => none }
def RetiresPartsWrongFalsely : Prop := retiresPartsRow.holds Try.pinned (OpenSpec.ofChange retiresPartsWrong)

/-- 'ragpickerlaw13.RetiresPlay': WHATEVER THE INPUT: true; the input reads as it did. -/
def retiresPlaySpec : ChangeSpec := { name := "retiresPlay", fn := fun _ => fun
  | [d] => { results := [.lit (.bool true)], args := [d] }
  | _ => none }
def retiresPlayRow : OpenClaim := { program := "ytmlfmmnnbdlabaa", sum := "fe476edc0f3af964f5f4186f3c8461be7a1f307220bbe10299d6d0dd81c14620", func := "ragpicker/ragpickerlaw13.RetiresPlay", spec := "retiresPlay", plainKeys := false, apart := false }
def RetiresPlaySaid : Prop := retiresPlayRow.holds Try.pinned (OpenSpec.ofChange retiresPlaySpec)

/-- ITS FALSE NEIGHBOUR: 'it returns false'. Refute it at one input. -/
def retiresPlayWrong : ChangeSpec := { name := "retiresPlay", fn := fun _ => fun
  | [d] => { results := [.lit (.bool false)], args := [d] }
  | _ => none }
def RetiresPlayWrongFalsely : Prop := retiresPlayRow.holds Try.pinned (OpenSpec.ofChange retiresPlayWrong)

/-- 'ragpickerlaw15.EpochsHold': WHATEVER THE INPUT: true; the input reads as it did. -/
def epochsHoldSpec : ChangeSpec := { name := "epochsHold", fn := fun _ => fun
  | [d1, d2] => { results := [.lit (.bool true)], args := [d1, d2] }
  | _ => none }
def epochsHoldRow : OpenClaim := { program := "ytmlfmmnnbdlabaa", sum := "fe476edc0f3af964f5f4186f3c8461be7a1f307220bbe10299d6d0dd81c14620", func := "ragpicker/ragpickerlaw15.EpochsHold", spec := "epochsHold", unfollowed := true, recurses := true, plainKeys := false, apart := false }
def EpochsHoldSaid : Prop := epochsHoldRow.holds Try.pinned (OpenSpec.ofChange epochsHoldSpec)

/-- ITS FALSE NEIGHBOUR: 'it returns false'. Refute it at one input. -/
def epochsHoldWrong : ChangeSpec := { name := "epochsHold", fn := fun _ => fun
  | [d1, d2] => { results := [.lit (.bool false)], args := [d1, d2] }
  | _ => none }
def EpochsHoldWrongFalsely : Prop := epochsHoldRow.holds Try.pinned (OpenSpec.ofChange epochsHoldWrong)

/-- 'ragpickerlaw14.SnapsMoved': WHATEVER THE INPUT: true; the input reads as it did. -/
def snapsMovedSpec : ChangeSpec := { name := "snapsMoved", fn := fun _ => fun
  | [d] => { results := [.lit (.bool true)], args := [d] }
  | _ => none }
def snapsMovedRow : OpenClaim := { program := "ytmlfmmnnbdlabaa", sum := "fe476edc0f3af964f5f4186f3c8461be7a1f307220bbe10299d6d0dd81c14620", func := "ragpicker/ragpickerlaw14.SnapsMoved", spec := "snapsMoved", unfollowed := true, recurses := true, plainKeys := false, apart := false }
def SnapsMovedSaid : Prop := snapsMovedRow.holds Try.pinned (OpenSpec.ofChange snapsMovedSpec)

/-- ITS FALSE NEIGHBOUR: 'it returns false'. Refute it at one input. -/
def snapsMovedWrong : ChangeSpec := { name := "snapsMoved", fn := fun _ => fun
  | [d] => { results := [.lit (.bool false)], args := [d] }
  | _ => none }
def SnapsMovedWrongFalsely : Prop := snapsMovedRow.holds Try.pinned (OpenSpec.ofChange snapsMovedWrong)

/-- 'ragpickerlaw14.SnapsPlay': WHATEVER THE INPUT: true; the input reads as it did. -/
def snapsPlaySpec : ChangeSpec := { name := "snapsPlay", fn := fun _ => fun
  | [d1, d2] => { results := [.lit (.bool true)], args := [d1, d2] }
  | _ => none }
def snapsPlayRow : OpenClaim := { program := "ytmlfmmnnbdlabaa", sum := "fe476edc0f3af964f5f4186f3c8461be7a1f307220bbe10299d6d0dd81c14620", func := "ragpicker/ragpickerlaw14.SnapsPlay", spec := "snapsPlay", unfollowed := true, recurses := true, plainKeys := false, apart := false }
def SnapsPlaySaid : Prop := snapsPlayRow.holds Try.pinned (OpenSpec.ofChange snapsPlaySpec)

/-- ITS FALSE NEIGHBOUR: 'it returns false'. Refute it at one input. -/
def snapsPlayWrong : ChangeSpec := { name := "snapsPlay", fn := fun _ => fun
  | [d1, d2] => { results := [.lit (.bool false)], args := [d1, d2] }
  | _ => none }
def SnapsPlayWrongFalsely : Prop := snapsPlayRow.holds Try.pinned (OpenSpec.ofChange snapsPlayWrong)

/-- 'ragpickerlaw14.SnapsStill': WHATEVER THE INPUT: true; the input reads as it did. -/
def snapsStillSpec : ChangeSpec := { name := "snapsStill", fn := fun _ => fun
  | [d1, d2] => { results := [.lit (.bool true)], args := [d1, d2] }
  | _ => none }
def snapsStillRow : OpenClaim := { program := "ytmlfmmnnbdlabaa", sum := "fe476edc0f3af964f5f4186f3c8461be7a1f307220bbe10299d6d0dd81c14620", func := "ragpicker/ragpickerlaw14.SnapsStill", spec := "snapsStill", unfollowed := true, recurses := true, plainKeys := false, apart := false }
def SnapsStillSaid : Prop := snapsStillRow.holds Try.pinned (OpenSpec.ofChange snapsStillSpec)

/-- ITS FALSE NEIGHBOUR: 'it returns false'. Refute it at one input. -/
def snapsStillWrong : ChangeSpec := { name := "snapsStill", fn := fun _ => fun
  | [d1, d2] => { results := [.lit (.bool false)], args := [d1, d2] }
  | _ => none }
def SnapsStillWrongFalsely : Prop := snapsStillRow.holds Try.pinned (OpenSpec.ofChange snapsStillWrong)

/-- 'ragpickerlaw17.ErasHold': WHATEVER THE INPUT: true; the input reads as it did. -/
def erasHoldSpec : ChangeSpec := { name := "erasHold", fn := fun _ => fun
  | [d1, d2, d3] => { results := [.lit (.bool true)], args := [d1, d2, d3] }
  | _ => none }
def erasHoldRow : OpenClaim := { program := "ytmlfmmnnbdlabaa", sum := "fe476edc0f3af964f5f4186f3c8461be7a1f307220bbe10299d6d0dd81c14620", func := "ragpicker/ragpickerlaw17.ErasHold", spec := "erasHold", unfollowed := true, recurses := true, plainKeys := false, apart := false }
def ErasHoldSaid : Prop := erasHoldRow.holds Try.pinned (OpenSpec.ofChange erasHoldSpec)

/-- ITS FALSE NEIGHBOUR: 'it returns false'. Refute it at one input. -/
def erasHoldWrong : ChangeSpec := { name := "erasHold", fn := fun _ => fun
  | [d1, d2, d3] => { results := [.lit (.bool false)], args := [d1, d2, d3] }
  | _ => none }
def ErasHoldWrongFalsely : Prop := erasHoldRow.holds Try.pinned (OpenSpec.ofChange erasHoldWrong)

/-- 'ragpickerlaw17.ErasBump': WHATEVER THE INPUT: true; the input reads as it did. -/
def erasBumpSpec : ChangeSpec := { name := "erasBump", fn := fun _ => fun
  | [d1, d2] => { results := [.lit (.bool true)], args := [d1, d2] }
  | _ => none }
def erasBumpRow : OpenClaim := { program := "ytmlfmmnnbdlabaa", sum := "fe476edc0f3af964f5f4186f3c8461be7a1f307220bbe10299d6d0dd81c14620", func := "ragpicker/ragpickerlaw17.ErasBump", spec := "erasBump", unfollowed := true, recurses := true, plainKeys := false, apart := false }
def ErasBumpSaid : Prop := erasBumpRow.holds Try.pinned (OpenSpec.ofChange erasBumpSpec)

/-- ITS FALSE NEIGHBOUR: 'it returns false'. Refute it at one input. -/
def erasBumpWrong : ChangeSpec := { name := "erasBump", fn := fun _ => fun
  | [d1, d2] => { results := [.lit (.bool false)], args := [d1, d2] }
  | _ => none }
def ErasBumpWrongFalsely : Prop := erasBumpRow.holds Try.pinned (OpenSpec.ofChange erasBumpWrong)

/- THE SECOND FORM. 'bulk': how many values and letters a reading holds, each counted each time it is reached (what is shared counts as often as it is met; a slice's spare places count too). A statement '..UptoSaid' is the law's where the arguments, and the package variables that the reading takes, are together of bulk at most 1048576: NARROWER than '..Said'. Prove '..Said' where nothing that the law and all that it calls make is longer than what came in: it says more and counts as full. Else prove '..UptoSaid'. A law counts once. -/
mutual
def uptoBulk {H : Type} : DataW H → Nat
  | .lit (.string bytes) => bytes.length + 1
  | .lit _ => 1
  | .nil => 1
  | .ptr d => uptoBulk d + 1
  | .slice elems spare => uptoBulkAll elems + uptoBulkAll spare + 1
  | .agg parts => uptoBulkAll parts + 1
  | .iface _ d => uptoBulk d + 1
  | .map entries => uptoBulkEntries entries + 1
  | .held _ => 1
def uptoBulkAll {H : Type} : List (DataW H) → Nat
  | [] => 0
  | d :: r => uptoBulk d + uptoBulkAll r
def uptoBulkEntries {H : Type} : List (Lit × DataW H) → Nat
  | [] => 0
  | x :: r => uptoBulkEntry x + uptoBulkEntries r
def uptoBulkEntry {H : Type} : Lit × DataW H → Nat
  | (.string bytes, d) => bytes.length + uptoBulk d + 1
  | (_, d) => uptoBulk d + 1
 end
def uptoSmall : (H : Type) → List (DataW H) → Bool := fun _ ds => decide (uptoBulkAll ds ≤ 1048576)
def OpenSpec.upto (s : _root_.Go.ChangeSpec) : _root_.Go.OpenSpec := { _root_.Go.OpenSpec.ofChange s with cond := some uptoSmall }

/-- 'ragpickerlaw13.RetiresParts', WHERE WHAT IT READS IS OF BULK AT MOST 1048576: true; the input reads as it did. -/
def retiresPartsUptoRow : OpenClaim := { program := "ytmlfmmnnbdlabaa", sum := "fe476edc0f3af964f5f4186f3c8461be7a1f307220bbe10299d6d0dd81c14620", func := "ragpicker/ragpickerlaw13.RetiresParts", spec := "retiresParts", plainKeys := false, apart := false, narrowed := true }
def RetiresPartsUptoSaid : Prop := retiresPartsUptoRow.holds Try.pinned (OpenSpec.upto retiresPartsSpec)

/-- 'ragpickerlaw13.RetiresPlay', WHERE WHAT IT READS IS OF BULK AT MOST 1048576: true; the input reads as it did. -/
def retiresPlayUptoRow : OpenClaim := { program := "ytmlfmmnnbdlabaa", sum := "fe476edc0f3af964f5f4186f3c8461be7a1f307220bbe10299d6d0dd81c14620", func := "ragpicker/ragpickerlaw13.RetiresPlay", spec := "retiresPlay", plainKeys := false, apart := false, narrowed := true }
def RetiresPlayUptoSaid : Prop := retiresPlayUptoRow.holds Try.pinned (OpenSpec.upto retiresPlaySpec)

/-- 'ragpickerlaw15.EpochsHold', WHERE WHAT IT READS IS OF BULK AT MOST 1048576: true; the input reads as it did. -/
def epochsHoldUptoRow : OpenClaim := { program := "ytmlfmmnnbdlabaa", sum := "fe476edc0f3af964f5f4186f3c8461be7a1f307220bbe10299d6d0dd81c14620", func := "ragpicker/ragpickerlaw15.EpochsHold", spec := "epochsHold", unfollowed := true, recurses := true, plainKeys := false, apart := false, narrowed := true }
def EpochsHoldUptoSaid : Prop := epochsHoldUptoRow.holds Try.pinned (OpenSpec.upto epochsHoldSpec)

/-- 'ragpickerlaw14.SnapsMoved', WHERE WHAT IT READS IS OF BULK AT MOST 1048576: true; the input reads as it did. -/
def snapsMovedUptoRow : OpenClaim := { program := "ytmlfmmnnbdlabaa", sum := "fe476edc0f3af964f5f4186f3c8461be7a1f307220bbe10299d6d0dd81c14620", func := "ragpicker/ragpickerlaw14.SnapsMoved", spec := "snapsMoved", unfollowed := true, recurses := true, plainKeys := false, apart := false, narrowed := true }
def SnapsMovedUptoSaid : Prop := snapsMovedUptoRow.holds Try.pinned (OpenSpec.upto snapsMovedSpec)

/-- 'ragpickerlaw14.SnapsPlay', WHERE WHAT IT READS IS OF BULK AT MOST 1048576: true; the input reads as it did. -/
def snapsPlayUptoRow : OpenClaim := { program := "ytmlfmmnnbdlabaa", sum := "fe476edc0f3af964f5f4186f3c8461be7a1f307220bbe10299d6d0dd81c14620", func := "ragpicker/ragpickerlaw14.SnapsPlay", spec := "snapsPlay", unfollowed := true, recurses := true, plainKeys := false, apart := false, narrowed := true }
def SnapsPlayUptoSaid : Prop := snapsPlayUptoRow.holds Try.pinned (OpenSpec.upto snapsPlaySpec)

/-- 'ragpickerlaw14.SnapsStill', WHERE WHAT IT READS IS OF BULK AT MOST 1048576: true; the input reads as it did. -/
def snapsStillUptoRow : OpenClaim := { program := "ytmlfmmnnbdlabaa", sum := "fe476edc0f3af964f5f4186f3c8461be7a1f307220bbe10299d6d0dd81c14620", func := "ragpicker/ragpickerlaw14.SnapsStill", spec := "snapsStill", unfollowed := true, recurses := true, plainKeys := false, apart := false, narrowed := true }
def SnapsStillUptoSaid : Prop := snapsStillUptoRow.holds Try.pinned (OpenSpec.upto snapsStillSpec)

/-- 'ragpickerlaw17.ErasHold', WHERE WHAT IT READS IS OF BULK AT MOST 1048576: true; the input reads as it did. -/
def erasHoldUptoRow : OpenClaim := { program := "ytmlfmmnnbdlabaa", sum := "fe476edc0f3af964f5f4186f3c8461be7a1f307220bbe10299d6d0dd81c14620", func := "ragpicker/ragpickerlaw17.ErasHold", spec := "erasHold", unfollowed := true, recurses := true, plainKeys := false, apart := false, narrowed := true }
def ErasHoldUptoSaid : Prop := erasHoldUptoRow.holds Try.pinned (OpenSpec.upto erasHoldSpec)

/-- 'ragpickerlaw17.ErasBump', WHERE WHAT IT READS IS OF BULK AT MOST 1048576: true; the input reads as it did. -/
def erasBumpUptoRow : OpenClaim := { program := "ytmlfmmnnbdlabaa", sum := "fe476edc0f3af964f5f4186f3c8461be7a1f307220bbe10299d6d0dd81c14620", func := "ragpicker/ragpickerlaw17.ErasBump", spec := "erasBump", unfollowed := true, recurses := true, plainKeys := false, apart := false, narrowed := true }
def ErasBumpUptoSaid : Prop := erasBumpUptoRow.holds Try.pinned (OpenSpec.upto erasBumpSpec)

end Rows
end Go.Proofs.Ytmlfmmnnbdlabaa
