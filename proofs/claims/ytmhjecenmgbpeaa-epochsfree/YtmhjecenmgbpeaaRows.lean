/-
  No cell of these rows narrows 'for every input' (looked for: loops, veiled, ifaces, maps, wideKeys, modest, calm, conditions, laid).
  DERIVED. THE GIVEN ROWS OF THIS SEAT. 6 by the template 'for every input the law returns true; each argument reads behind the call as it read before'; 0 by the template 'total and deterministic' (their statements: YtmhjecenmgbpeaaTotals.lean).
  GIVEN WITH THE SEED: the statements are not yours to turn. If you find one false, say at which input.
  Laid BY PROGRAM, IN A SANDBOX (cutbox-rows.mjs): the forced cells as the released guide's own fill.sh prints them over the translation cb16719854513e75… (all of the seat's roots in one cut). By AI agents, Wed Nov 11 2026. No macro, syntax, notation, axiom, sorry.
-/
import Derived.Test.YtmhjecenmgbpeaaChecked
import GoSem.Claim
import GoSem.ClaimJoined
import GoSem.ClaimMapViews
import Derived.JoinedTies
import Derived.KernelRfl
namespace Go.Proofs.Ytmhjecenmgbpeaa
/- THE CELL 'sum', in the pinned program and in every row, IS THE sha256 OF THE DUMP (.gsa) THAT YtmhjecenmgbpeaaProg.lean LOADS. Nothing in Lean hashes anything: it is a label: what it is worth is what the hold of that sum in a sandbox is worth. -/
noncomputable def Try.pinned : Pinned := { name := "ytmhjecenmgbpeaa", sum := "cb16719854513e75ad03008fa94b6e8d354e95a2740eed8e8da3b968690c1318", checked := Try.checked }
namespace Rows
def none {H : Type} : Left H := { results := [], args := [] }

/-- 'ragpickerlaw13.RetiresParts': WHATEVER THE INPUT: true; the input reads as it did. -/
def retiresPartsSpec : ChangeSpec := { name := "retiresParts", fn := fun _ => fun
  | [d1, d2] => { results := [.lit (.bool true)], args := [d1, d2] }
  | _ => none }
def retiresPartsRow : OpenClaim := { program := "ytmhjecenmgbpeaa", sum := "cb16719854513e75ad03008fa94b6e8d354e95a2740eed8e8da3b968690c1318", func := "ragpicker/ragpickerlaw13.RetiresParts", spec := "retiresParts", plainKeys := false, apart := false }
def RetiresPartsSaid : Prop := retiresPartsRow.holds Try.pinned (OpenSpec.ofChange retiresPartsSpec)

/-- ITS FALSE NEIGHBOUR: 'it returns false'. Refute it at one input. -/
def retiresPartsWrong : ChangeSpec := { name := "retiresParts", fn := fun _ => fun
  | [d1, d2] => { results := [.lit (.bool false)], args := [d1, d2] }
  | _ => none }
def RetiresPartsWrongFalsely : Prop := retiresPartsRow.holds Try.pinned (OpenSpec.ofChange retiresPartsWrong)

/-- 'ragpickerlaw15.EpochsFree': WHATEVER THE INPUT: true; the input reads as it did. -/
def epochsFreeSpec : ChangeSpec := { name := "epochsFree", fn := fun _ => fun
  | [d1, d2, d3] => { results := [.lit (.bool true)], args := [d1, d2, d3] }
  | _ => none }
def epochsFreeRow : OpenClaim := { program := "ytmhjecenmgbpeaa", sum := "cb16719854513e75ad03008fa94b6e8d354e95a2740eed8e8da3b968690c1318", func := "ragpicker/ragpickerlaw15.EpochsFree", spec := "epochsFree", unfollowed := true, recurses := true, plainKeys := false, apart := false }
def EpochsFreeSaid : Prop := epochsFreeRow.holds Try.pinned (OpenSpec.ofChange epochsFreeSpec)

/-- ITS FALSE NEIGHBOUR: 'it returns false'. Refute it at one input. -/
def epochsFreeWrong : ChangeSpec := { name := "epochsFree", fn := fun _ => fun
  | [d1, d2, d3] => { results := [.lit (.bool false)], args := [d1, d2, d3] }
  | _ => none }
def EpochsFreeWrongFalsely : Prop := epochsFreeRow.holds Try.pinned (OpenSpec.ofChange epochsFreeWrong)

/-- 'ragpickerlaw14.SnapsMoved': WHATEVER THE INPUT: true; the input reads as it did. -/
def snapsMovedSpec : ChangeSpec := { name := "snapsMoved", fn := fun _ => fun
  | [d] => { results := [.lit (.bool true)], args := [d] }
  | _ => none }
def snapsMovedRow : OpenClaim := { program := "ytmhjecenmgbpeaa", sum := "cb16719854513e75ad03008fa94b6e8d354e95a2740eed8e8da3b968690c1318", func := "ragpicker/ragpickerlaw14.SnapsMoved", spec := "snapsMoved", unfollowed := true, recurses := true, plainKeys := false, apart := false }
def SnapsMovedSaid : Prop := snapsMovedRow.holds Try.pinned (OpenSpec.ofChange snapsMovedSpec)

/-- ITS FALSE NEIGHBOUR: 'it returns false'. Refute it at one input. -/
def snapsMovedWrong : ChangeSpec := { name := "snapsMoved", fn := fun _ => fun
  | [d] => { results := [.lit (.bool false)], args := [d] }
  | _ => none }
def SnapsMovedWrongFalsely : Prop := snapsMovedRow.holds Try.pinned (OpenSpec.ofChange snapsMovedWrong)

/-- 'ragpickerlaw17.ErasMay': WHATEVER THE INPUT: true; the input reads as it did. -/
def erasMaySpec : ChangeSpec := { name := "erasMay", fn := fun _ => fun
  | [d1, d2, d3] => { results := [.lit (.bool true)], args := [d1, d2, d3] }
  | _ => none }
def erasMayRow : OpenClaim := { program := "ytmhjecenmgbpeaa", sum := "cb16719854513e75ad03008fa94b6e8d354e95a2740eed8e8da3b968690c1318", func := "ragpicker/ragpickerlaw17.ErasMay", spec := "erasMay", unfollowed := true, recurses := true, plainKeys := false, apart := false }
def ErasMaySaid : Prop := erasMayRow.holds Try.pinned (OpenSpec.ofChange erasMaySpec)

/-- ITS FALSE NEIGHBOUR: 'it returns false'. Refute it at one input. -/
def erasMayWrong : ChangeSpec := { name := "erasMay", fn := fun _ => fun
  | [d1, d2, d3] => { results := [.lit (.bool false)], args := [d1, d2, d3] }
  | _ => none }
def ErasMayWrongFalsely : Prop := erasMayRow.holds Try.pinned (OpenSpec.ofChange erasMayWrong)

/-- 'ragpickerlaw17.ErasBump': WHATEVER THE INPUT: true; the input reads as it did. -/
def erasBumpSpec : ChangeSpec := { name := "erasBump", fn := fun _ => fun
  | [d1, d2] => { results := [.lit (.bool true)], args := [d1, d2] }
  | _ => none }
def erasBumpRow : OpenClaim := { program := "ytmhjecenmgbpeaa", sum := "cb16719854513e75ad03008fa94b6e8d354e95a2740eed8e8da3b968690c1318", func := "ragpicker/ragpickerlaw17.ErasBump", spec := "erasBump", unfollowed := true, recurses := true, plainKeys := false, apart := false }
def ErasBumpSaid : Prop := erasBumpRow.holds Try.pinned (OpenSpec.ofChange erasBumpSpec)

/-- ITS FALSE NEIGHBOUR: 'it returns false'. Refute it at one input. -/
def erasBumpWrong : ChangeSpec := { name := "erasBump", fn := fun _ => fun
  | [d1, d2] => { results := [.lit (.bool false)], args := [d1, d2] }
  | _ => none }
def ErasBumpWrongFalsely : Prop := erasBumpRow.holds Try.pinned (OpenSpec.ofChange erasBumpWrong)

/-- 'ragpickerlaw17.ErasHold': WHATEVER THE INPUT: true; the input reads as it did. -/
def erasHoldSpec : ChangeSpec := { name := "erasHold", fn := fun _ => fun
  | [d1, d2, d3] => { results := [.lit (.bool true)], args := [d1, d2, d3] }
  | _ => none }
def erasHoldRow : OpenClaim := { program := "ytmhjecenmgbpeaa", sum := "cb16719854513e75ad03008fa94b6e8d354e95a2740eed8e8da3b968690c1318", func := "ragpicker/ragpickerlaw17.ErasHold", spec := "erasHold", unfollowed := true, recurses := true, plainKeys := false, apart := false }
def ErasHoldSaid : Prop := erasHoldRow.holds Try.pinned (OpenSpec.ofChange erasHoldSpec)

/-- ITS FALSE NEIGHBOUR: 'it returns false'. Refute it at one input. -/
def erasHoldWrong : ChangeSpec := { name := "erasHold", fn := fun _ => fun
  | [d1, d2, d3] => { results := [.lit (.bool false)], args := [d1, d2, d3] }
  | _ => none }
def ErasHoldWrongFalsely : Prop := erasHoldRow.holds Try.pinned (OpenSpec.ofChange erasHoldWrong)

/- THE SECOND FORM. 'bulk': how many values and letters a reading holds, each counted each time it is reached (what is shared counts as often as it is met; a slice's spare places count too). A statement '..UptoSaid' is the law's where the arguments, and the package variables that the reading takes, are together of bulk at most 1048576: NARROWER than '..Said'. Prove '..Said' where nothing that the law and all that it calls make is longer than what came in: it says more and counts as full. Else prove '..UptoSaid'. A law counts once. -/
mutual
def uptoBulk {H : Type} : DataW H → Nat
  | .lit (.string bytes) => bytes.length + 1
  | .lit _ => 1
  | .nil => 1
  | .ptr d => uptoBulk d + 1
  | .slice elems spare => uptoBulkAll elems + uptoBulkAll spare + 1
  | .agg parts => uptoBulkAll parts + 1
  | .iface _ d => uptoBulk d + 1
  | .map entries => uptoBulkEntries entries + 1
  | .held _ => 1
def uptoBulkAll {H : Type} : List (DataW H) → Nat
  | [] => 0
  | d :: r => uptoBulk d + uptoBulkAll r
def uptoBulkEntries {H : Type} : List (Lit × DataW H) → Nat
  | [] => 0
  | x :: r => uptoBulkEntry x + uptoBulkEntries r
def uptoBulkEntry {H : Type} : Lit × DataW H → Nat
  | (.string bytes, d) => bytes.length + uptoBulk d + 1
  | (_, d) => uptoBulk d + 1
 end
def uptoSmall : (H : Type) → List (DataW H) → Bool := fun _ ds => decide (uptoBulkAll ds ≤ 1048576)
def OpenSpec.upto (s : _root_.Go.ChangeSpec) : _root_.Go.OpenSpec := { _root_.Go.OpenSpec.ofChange s with cond := some uptoSmall }

/-- 'ragpickerlaw13.RetiresParts', WHERE WHAT IT READS IS OF BULK AT MOST 1048576: true; the input reads as it did. -/
def retiresPartsUptoRow : OpenClaim := { program := "ytmhjecenmgbpeaa", sum := "cb16719854513e75ad03008fa94b6e8d354e95a2740eed8e8da3b968690c1318", func := "ragpicker/ragpickerlaw13.RetiresParts", spec := "retiresParts", plainKeys := false, apart := false, narrowed := true }
def RetiresPartsUptoSaid : Prop := retiresPartsUptoRow.holds Try.pinned (OpenSpec.upto retiresPartsSpec)

/-- 'ragpickerlaw15.EpochsFree', WHERE WHAT IT READS IS OF BULK AT MOST 1048576: true; the input reads as it did. -/
def epochsFreeUptoRow : OpenClaim := { program := "ytmhjecenmgbpeaa", sum := "cb16719854513e75ad03008fa94b6e8d354e95a2740eed8e8da3b968690c1318", func := "ragpicker/ragpickerlaw15.EpochsFree", spec := "epochsFree", unfollowed := true, recurses := true, plainKeys := false, apart := false, narrowed := true }
def EpochsFreeUptoSaid : Prop := epochsFreeUptoRow.holds Try.pinned (OpenSpec.upto epochsFreeSpec)

/-- 'ragpickerlaw14.SnapsMoved', WHERE WHAT IT READS IS OF BULK AT MOST 1048576: true; the input reads as it did. -/
def snapsMovedUptoRow : OpenClaim := { program := "ytmhjecenmgbpeaa", sum := "cb16719854513e75ad03008fa94b6e8d354e95a2740eed8e8da3b968690c1318", func := "ragpicker/ragpickerlaw14.SnapsMoved", spec := "snapsMoved", unfollowed := true, recurses := true, plainKeys := false, apart := false, narrowed := true }
def SnapsMovedUptoSaid : Prop := snapsMovedUptoRow.holds Try.pinned (OpenSpec.upto snapsMovedSpec)

/-- 'ragpickerlaw17.ErasMay', WHERE WHAT IT READS IS OF BULK AT MOST 1048576: true; the input reads as it did. -/
def erasMayUptoRow : OpenClaim := { program := "ytmhjecenmgbpeaa", sum := "cb16719854513e75ad03008fa94b6e8d354e95a2740eed8e8da3b968690c1318", func := "ragpicker/ragpickerlaw17.ErasMay", spec := "erasMay", unfollowed := true, recurses := true, plainKeys := false, apart := false, narrowed := true }
def ErasMayUptoSaid : Prop := erasMayUptoRow.holds Try.pinned (OpenSpec.upto erasMaySpec)

/-- 'ragpickerlaw17.ErasBump', WHERE WHAT IT READS IS OF BULK AT MOST 1048576: true; the input reads as it did. -/
def erasBumpUptoRow : OpenClaim := { program := "ytmhjecenmgbpeaa", sum := "cb16719854513e75ad03008fa94b6e8d354e95a2740eed8e8da3b968690c1318", func := "ragpicker/ragpickerlaw17.ErasBump", spec := "erasBump", unfollowed := true, recurses := true, plainKeys := false, apart := false, narrowed := true }
def ErasBumpUptoSaid : Prop := erasBumpUptoRow.holds Try.pinned (OpenSpec.upto erasBumpSpec)

/-- 'ragpickerlaw17.ErasHold', WHERE WHAT IT READS IS OF BULK AT MOST 1048576: true; the input reads as it did. -/
def erasHoldUptoRow : OpenClaim := { program := "ytmhjecenmgbpeaa", sum := "cb16719854513e75ad03008fa94b6e8d354e95a2740eed8e8da3b968690c1318", func := "ragpicker/ragpickerlaw17.ErasHold", spec := "erasHold", unfollowed := true, recurses := true, plainKeys := false, apart := false, narrowed := true }
def ErasHoldUptoSaid : Prop := erasHoldUptoRow.holds Try.pinned (OpenSpec.upto erasHoldSpec)

end Rows
end Go.Proofs.Ytmhjecenmgbpeaa
