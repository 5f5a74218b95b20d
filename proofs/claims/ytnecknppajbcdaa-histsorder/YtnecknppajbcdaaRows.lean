/-
  No cell of these rows narrows 'for every input' (looked for: loops, veiled, ifaces, maps, wideKeys, modest, calm, conditions, laid).
  DERIVED. THE GIVEN ROWS OF THIS SEAT. 8 by the template 'for every input the law returns true; each argument reads behind the call as it read before'; 0 by the template 'total and deterministic' (their statements: YtnecknppajbcdaaTotals.lean).
  GIVEN WITH THE SEED: the statements are not yours to turn. If you find one false, say at which input.
  Laid BY PROGRAM, IN A SANDBOX (cutbox-rows.mjs): the forced cells as the released guide's own fill.sh prints them over the translation 411c4e0c145d3882… (all of the seat's roots in one cut). By AI agents, Wed Nov 11 2026. No macro, syntax, notation, axiom, sorry.
-/
import Derived.Test.YtnecknppajbcdaaChecked
import GoSem.Claim
import GoSem.ClaimJoined
import GoSem.ClaimMapViews
import Derived.JoinedTies
import Derived.KernelRfl
namespace Go.Proofs.Ytnecknppajbcdaa
/- THE CELL 'sum', in the pinned program and in every row, IS THE sha256 OF THE DUMP (.gsa) THAT YtnecknppajbcdaaProg.lean LOADS. Nothing in Lean hashes anything: it is a label: what it is worth is what the hold of that sum in a sandbox is worth. -/
noncomputable def Try.pinned : Pinned := { name := "ytnecknppajbcdaa", sum := "411c4e0c145d38828c90e581fe2eab7878658eeb0abf8ab3915038909b94bfae", checked := Try.checked }
namespace Rows
def none {H : Type} : Left H := { results := [], args := [] }

/-- 'ragpickerlaw13.RetiresOnce': WHATEVER THE INPUT: true; the input reads as it did. -/
def retiresOnceSpec : ChangeSpec := { name := "retiresOnce", fn := fun _ => fun
  | [d1, d2, d3] => { results := [.lit (.bool true)], args := [d1, d2, d3] }
  | _ => none }
def retiresOnceRow : OpenClaim := { program := "ytnecknppajbcdaa", sum := "411c4e0c145d38828c90e581fe2eab7878658eeb0abf8ab3915038909b94bfae", func := "ragpicker/ragpickerlaw13.RetiresOnce", spec := "retiresOnce", plainKeys := false, apart := false }
def RetiresOnceSaid : Prop := retiresOnceRow.holds Try.pinned (OpenSpec.ofChange retiresOnceSpec)

/-- ITS FALSE NEIGHBOUR: 'it returns false'. Refute it at one input. -/
def retiresOnceWrong : ChangeSpec := { name := "retiresOnce", fn := fun _ => fun
  | [d1, d2, d3] => { results := [.lit (.bool false)], args := [d1, d2, d3] }
  | _ => none }
def RetiresOnceWrongFalsely : Prop := retiresOnceRow.holds Try.pinned (OpenSpec.ofChange retiresOnceWrong)

/-- 'ragpickerlaw13.RetiresPlay': WHATEVER THE INPUT: true; the input reads as it did. -/
def retiresPlaySpec : ChangeSpec := { name := "retiresPlay", fn := fun _ => fun
  | [d] => { results := [.lit (.bool true)], args := [d] }
  | _ => none }
def retiresPlayRow : OpenClaim := { program := "ytnecknppajbcdaa", sum := "411c4e0c145d38828c90e581fe2eab7878658eeb0abf8ab3915038909b94bfae", func := "ragpicker/ragpickerlaw13.RetiresPlay", spec := "retiresPlay", plainKeys := false, apart := false }
def RetiresPlaySaid : Prop := retiresPlayRow.holds Try.pinned (OpenSpec.ofChange retiresPlaySpec)

/-- ITS FALSE NEIGHBOUR: 'it returns false'. Refute it at one input. -/
def retiresPlayWrong : ChangeSpec := { name := "retiresPlay", fn := fun _ => fun
  | [d] => { results := [.lit (.bool false)], args := [d] }
  | _ => none }
def RetiresPlayWrongFalsely : Prop := retiresPlayRow.holds Try.pinned (OpenSpec.ofChange retiresPlayWrong)

/-- 'ragpickerlaw13.RetiresVoid': WHATEVER THE INPUT: true; the input reads as it did. -/
def retiresVoidSpec : ChangeSpec := { name := "retiresVoid", fn := fun _ => fun
  | [d1, d2] => { results := [.lit (.bool true)], args := [d1, d2] }
  | _ => none }
def retiresVoidRow : OpenClaim := { program := "ytnecknppajbcdaa", sum := "411c4e0c145d38828c90e581fe2eab7878658eeb0abf8ab3915038909b94bfae", func := "ragpicker/ragpickerlaw13.RetiresVoid", spec := "retiresVoid", plainKeys := false, apart := false }
def RetiresVoidSaid : Prop := retiresVoidRow.holds Try.pinned (OpenSpec.ofChange retiresVoidSpec)

/-- ITS FALSE NEIGHBOUR: 'it returns false'. Refute it at one input. -/
def retiresVoidWrong : ChangeSpec := { name := "retiresVoid", fn := fun _ => fun
  | [d1, d2] => { results := [.lit (.bool false)], args := [d1, d2] }
  | _ => none }
def RetiresVoidWrongFalsely : Prop := retiresVoidRow.holds Try.pinned (OpenSpec.ofChange retiresVoidWrong)

/-- 'ragpickerlaw13.RetiresParts': WHATEVER THE INPUT: true; the input reads as it did. -/
def retiresPartsSpec : ChangeSpec := { name := "retiresParts", fn := fun _ => fun
  | [d1, d2] => { results := [.lit (.bool true)], args := [d1, d2] }
  | _ => none }
def retiresPartsRow : OpenClaim := { program := "ytnecknppajbcdaa", sum := "411c4e0c145d38828c90e581fe2eab7878658eeb0abf8ab3915038909b94bfae", func := "ragpicker/ragpickerlaw13.RetiresParts", spec := "retiresParts", plainKeys := false, apart := false }
def RetiresPartsSaid : Prop := retiresPartsRow.holds Try.pinned (OpenSpec.ofChange retiresPartsSpec)

/-- ITS FALSE NEIGHBOUR: 'it returns false'. Refute it at one input. -/
def retiresPartsWrong : ChangeSpec := { name := "retiresParts", fn := fun _ => fun
  | [d1, d2] => { results := [.lit (.bool false)], args := [d1, d2] }
  | _ => none }
def RetiresPartsWrongFalsely : Prop := retiresPartsRow.holds Try.pinned (OpenSpec.ofChange retiresPartsWrong)

/-- 'ragpickerlaw29.HistsPlay': WHATEVER THE INPUT: true; the input reads as it did. -/
def histsPlaySpec : ChangeSpec := { name := "histsPlay", fn := fun _ => fun
  | [d] => { results := [.lit (.bool true)], args := [d] }
  | _ => none }
def histsPlayRow : OpenClaim := { program := "ytnecknppajbcdaa", sum := "411c4e0c145d38828c90e581fe2eab7878658eeb0abf8ab3915038909b94bfae", func := "ragpicker/ragpickerlaw29.HistsPlay", spec := "histsPlay", unfollowed := true, recurses := true, plainKeys := false, apart := false }
def HistsPlaySaid : Prop := histsPlayRow.holds Try.pinned (OpenSpec.ofChange histsPlaySpec)

/-- ITS FALSE NEIGHBOUR: 'it returns false'. Refute it at one input. -/
def histsPlayWrong : ChangeSpec := { name := "histsPlay", fn := fun _ => fun
  | [d] => { results := [.lit (.bool false)], args := [d] }
  | _ => none }
def HistsPlayWrongFalsely : Prop := histsPlayRow.holds Try.pinned (OpenSpec.ofChange histsPlayWrong)

/-- 'ragpickerlaw29.HistsVoid': WHATEVER THE INPUT: true; the input reads as it did. -/
def histsVoidSpec : ChangeSpec := { name := "histsVoid", fn := fun _ => fun
  | [d] => { results := [.lit (.bool true)], args := [d] }
  | _ => none }
def histsVoidRow : OpenClaim := { program := "ytnecknppajbcdaa", sum := "411c4e0c145d38828c90e581fe2eab7878658eeb0abf8ab3915038909b94bfae", func := "ragpicker/ragpickerlaw29.HistsVoid", spec := "histsVoid", unfollowed := true, recurses := true, plainKeys := false, apart := false }
def HistsVoidSaid : Prop := histsVoidRow.holds Try.pinned (OpenSpec.ofChange histsVoidSpec)

/-- ITS FALSE NEIGHBOUR: 'it returns false'. Refute it at one input. -/
def histsVoidWrong : ChangeSpec := { name := "histsVoid", fn := fun _ => fun
  | [d] => { results := [.lit (.bool false)], args := [d] }
  | _ => none }
def HistsVoidWrongFalsely : Prop := histsVoidRow.holds Try.pinned (OpenSpec.ofChange histsVoidWrong)

/-- 'ragpickerlaw29.HistsOrder': WHATEVER THE INPUT: true; the input reads as it did. -/
def histsOrderSpec : ChangeSpec := { name := "histsOrder", fn := fun _ => fun
  | [d] => { results := [.lit (.bool true)], args := [d] }
  | _ => none }
def histsOrderRow : OpenClaim := { program := "ytnecknppajbcdaa", sum := "411c4e0c145d38828c90e581fe2eab7878658eeb0abf8ab3915038909b94bfae", func := "ragpicker/ragpickerlaw29.HistsOrder", spec := "histsOrder", unfollowed := true, recurses := true, plainKeys := false, apart := false }
def HistsOrderSaid : Prop := histsOrderRow.holds Try.pinned (OpenSpec.ofChange histsOrderSpec)

/-- ITS FALSE NEIGHBOUR: 'it returns false'. Refute it at one input. -/
def histsOrderWrong : ChangeSpec := { name := "histsOrder", fn := fun _ => fun
  | [d] => { results := [.lit (.bool false)], args := [d] }
  | _ => none }
def HistsOrderWrongFalsely : Prop := histsOrderRow.holds Try.pinned (OpenSpec.ofChange histsOrderWrong)

/-- 'ragpickerlaw29.HistsOne': WHATEVER THE INPUT: true; the input reads as it did. -/
def histsOneSpec : ChangeSpec := { name := "histsOne", fn := fun _ => fun
  | [d1, d2, d3] => { results := [.lit (.bool true)], args := [d1, d2, d3] }
  | _ => none }
def histsOneRow : OpenClaim := { program := "ytnecknppajbcdaa", sum := "411c4e0c145d38828c90e581fe2eab7878658eeb0abf8ab3915038909b94bfae", func := "ragpicker/ragpickerlaw29.HistsOne", spec := "histsOne", unfollowed := true, recurses := true, plainKeys := false, apart := false }
def HistsOneSaid : Prop := histsOneRow.holds Try.pinned (OpenSpec.ofChange histsOneSpec)

/-- ITS FALSE NEIGHBOUR: 'it returns false'. Refute it at one input. -/
def histsOneWrong : ChangeSpec := { name := "histsOne", fn := fun _ => fun
  | [d1, d2, d3] => { results := [.lit (.bool false)], args := [d1, d2, d3] }
  | _ => none }
def HistsOneWrongFalsely : Prop := histsOneRow.holds Try.pinned (OpenSpec.ofChange histsOneWrong)

/- THE SECOND FORM. 'bulk': how many values and letters a reading holds, each counted each time it is reached (what is shared counts as often as it is met; a slice's spare places count too). A statement '..UptoSaid' is the law's where the arguments, and the package variables that the reading takes, are together of bulk at most 1048576: NARROWER than '..Said'. Prove '..Said' where nothing that the law and all that it calls make is longer than what came in: it says more and counts as full. Else prove '..UptoSaid'. A law counts once. -/
mutual
def uptoBulk {H : Type} : DataW H → Nat
  | .lit (.string bytes) => bytes.length + 1
  | .lit _ => 1
  | .nil => 1
  | .ptr d => uptoBulk d + 1
  | .slice elems spare => uptoBulkAll elems + uptoBulkAll spare + 1
  | .agg parts => uptoBulkAll parts + 1
  | .iface _ d => uptoBulk d + 1
  | .map entries => uptoBulkEntries entries + 1
  | .held _ => 1
def uptoBulkAll {H : Type} : List (DataW H) → Nat
  | [] => 0
  | d :: r => uptoBulk d + uptoBulkAll r
def uptoBulkEntries {H : Type} : List (Lit × DataW H) → Nat
  | [] => 0
  | x :: r => uptoBulkEntry x + uptoBulkEntries r
def uptoBulkEntry {H : Type} : Lit × DataW H → Nat
  | (.string bytes, d) => bytes.length + uptoBulk d + 1
  | (_, d) => uptoBulk d + 1
 end
def uptoSmall : (H : Type) → List (DataW H) → Bool := fun _ ds => decide (uptoBulkAll ds ≤ 1048576)
def OpenSpec.upto (s : _root_.Go.ChangeSpec) : _root_.Go.OpenSpec := { _root_.Go.OpenSpec.ofChange s with cond := some uptoSmall }

/-- 'ragpickerlaw13.RetiresOnce', WHERE WHAT IT READS IS OF BULK AT MOST 1048576: true; the input reads as it did. -/
def retiresOnceUptoRow : OpenClaim := { program := "ytnecknppajbcdaa", sum := "411c4e0c145d38828c90e581fe2eab7878658eeb0abf8ab3915038909b94bfae", func := "ragpicker/ragpickerlaw13.RetiresOnce", spec := "retiresOnce", plainKeys := false, apart := false, narrowed := true }
def RetiresOnceUptoSaid : Prop := retiresOnceUptoRow.holds Try.pinned (OpenSpec.upto retiresOnceSpec)

/-- 'ragpickerlaw13.RetiresPlay', WHERE WHAT IT READS IS OF BULK AT MOST 1048576: true; the input reads as it did. -/
def retiresPlayUptoRow : OpenClaim := { program := "ytnecknppajbcdaa", sum := "411c4e0c145d38828c90e581fe2eab7878658eeb0abf8ab3915038909b94bfae", func := "ragpicker/ragpickerlaw13.RetiresPlay", spec := "retiresPlay", plainKeys := false, apart := false, narrowed := true }
def RetiresPlayUptoSaid : Prop := retiresPlayUptoRow.holds Try.pinned (OpenSpec.upto retiresPlaySpec)

/-- 'ragpickerlaw13.RetiresVoid', WHERE WHAT IT READS IS OF BULK AT MOST 1048576: true; the input reads as it did. -/
def retiresVoidUptoRow : OpenClaim := { program := "ytnecknppajbcdaa", sum := "411c4e0c145d38828c90e581fe2eab7878658eeb0abf8ab3915038909b94bfae", func := "ragpicker/ragpickerlaw13.RetiresVoid", spec := "retiresVoid", plainKeys := false, apart := false, narrowed := true }
def RetiresVoidUptoSaid : Prop := retiresVoidUptoRow.holds Try.pinned (OpenSpec.upto retiresVoidSpec)

/-- 'ragpickerlaw13.RetiresParts', WHERE WHAT IT READS IS OF BULK AT MOST 1048576: true; the input reads as it did. -/
def retiresPartsUptoRow : OpenClaim := { program := "ytnecknppajbcdaa", sum := "411c4e0c145d38828c90e581fe2eab7878658eeb0abf8ab3915038909b94bfae", func := "ragpicker/ragpickerlaw13.RetiresParts", spec := "retiresParts", plainKeys := false, apart := false, narrowed := true }
def RetiresPartsUptoSaid : Prop := retiresPartsUptoRow.holds Try.pinned (OpenSpec.upto retiresPartsSpec)

/-- 'ragpickerlaw29.HistsPlay', WHERE WHAT IT READS IS OF BULK AT MOST 1048576: true; the input reads as it did. -/
def histsPlayUptoRow : OpenClaim := { program := "ytnecknppajbcdaa", sum := "411c4e0c145d38828c90e581fe2eab7878658eeb0abf8ab3915038909b94bfae", func := "ragpicker/ragpickerlaw29.HistsPlay", spec := "histsPlay", unfollowed := true, recurses := true, plainKeys := false, apart := false, narrowed := true }
def HistsPlayUptoSaid : Prop := histsPlayUptoRow.holds Try.pinned (OpenSpec.upto histsPlaySpec)

/-- 'ragpickerlaw29.HistsVoid', WHERE WHAT IT READS IS OF BULK AT MOST 1048576: true; the input reads as it did. -/
def histsVoidUptoRow : OpenClaim := { program := "ytnecknppajbcdaa", sum := "411c4e0c145d38828c90e581fe2eab7878658eeb0abf8ab3915038909b94bfae", func := "ragpicker/ragpickerlaw29.HistsVoid", spec := "histsVoid", unfollowed := true, recurses := true, plainKeys := false, apart := false, narrowed := true }
def HistsVoidUptoSaid : Prop := histsVoidUptoRow.holds Try.pinned (OpenSpec.upto histsVoidSpec)

/-- 'ragpickerlaw29.HistsOrder', WHERE WHAT IT READS IS OF BULK AT MOST 1048576: true; the input reads as it did. -/
def histsOrderUptoRow : OpenClaim := { program := "ytnecknppajbcdaa", sum := "411c4e0c145d38828c90e581fe2eab7878658eeb0abf8ab3915038909b94bfae", func := "ragpicker/ragpickerlaw29.HistsOrder", spec := "histsOrder", unfollowed := true, recurses := true, plainKeys := false, apart := false, narrowed := true }
def HistsOrderUptoSaid : Prop := histsOrderUptoRow.holds Try.pinned (OpenSpec.upto histsOrderSpec)

/-- 'ragpickerlaw29.HistsOne', WHERE WHAT IT READS IS OF BULK AT MOST 1048576: true; the input reads as it did. -/
def histsOneUptoRow : OpenClaim := { program := "ytnecknppajbcdaa", sum := "411c4e0c145d38828c90e581fe2eab7878658eeb0abf8ab3915038909b94bfae", func := "ragpicker/ragpickerlaw29.HistsOne", spec := "histsOne", unfollowed := true, recurses := true, plainKeys := false, apart := false, narrowed := true }
def HistsOneUptoSaid : Prop := histsOneUptoRow.holds Try.pinned (OpenSpec.upto histsOneSpec)

end Rows
end Go.Proofs.Ytnecknppajbcdaa
