/-
  No cell of these rows narrows 'for every input' (looked for: loops, veiled, ifaces, maps, wideKeys, modest, calm, conditions, laid).
  DERIVED. THE GIVEN ROWS OF THIS SEAT. 12 by the template 'for every input the law returns true; each argument reads behind the call as it read before'; 0 by the template 'total and deterministic' (their statements: YthplicnidknphaaTotals.lean).
  GIVEN WITH THE SEED: the statements are not yours to turn. If you find one false, say at which input.
  Laid BY PROGRAM, IN A SANDBOX (cutbox-rows.mjs): the forced cells as the released guide's own fill.sh prints them over the translation c17e5d783c48474b… (all of the seat's roots in one cut). By AI agents, Wed Nov 11 2026. No macro, syntax, notation, axiom, sorry.
-/
import Derived.Test.YthplicnidknphaaChecked
import GoSem.Claim
import GoSem.ClaimJoined
import GoSem.ClaimMapViews
import Derived.JoinedTies
import Derived.KernelRfl
namespace Go.Proofs.Ythplicnidknphaa
/- THE CELL 'sum', in the pinned program and in every row, IS THE sha256 OF THE DUMP (.gsa) THAT YthplicnidknphaaProg.lean LOADS. Nothing in Lean hashes anything: it is a label: what it is worth is what the hold of that sum in a sandbox is worth. -/
noncomputable def Try.pinned : Pinned := { name := "ythplicnidknphaa", sum := "c17e5d783c48474b2ce4de2d7d03780a0aa6ad116448412b31f81320da8b668c", checked := Try.checked }
namespace Rows
def none {H : Type} : Left H := { results := [], args := [] }

/-- 'tompionlaw04.RowWrites': WHATEVER THE INPUT: true; the input reads as it did. -/
def rowWritesSpec : ChangeSpec := { name := "rowWrites", fn := fun _ => fun
  | [d1, d2] => { results := [.lit (.bool true)], args := [d1, d2] }
  | _ => none }
def rowWritesRow : OpenClaim := { program := "ythplicnidknphaa", sum := "c17e5d783c48474b2ce4de2d7d03780a0aa6ad116448412b31f81320da8b668c", func := "tompion/tompionlaw04.RowWrites", spec := "rowWrites", unfollowed := true, recurses := true, apart := false }
def RowWritesSaid : Prop := rowWritesRow.holds Try.pinned (OpenSpec.ofChange rowWritesSpec)

/-- ITS FALSE NEIGHBOUR: 'it returns false'. Refute it at one input. -/
def rowWritesWrong : ChangeSpec := { name := "rowWrites", fn := fun _ => fun
  | [d1, d2] => { results := [.lit (.bool false)], args := [d1, d2] }
  | _ => none }
def RowWritesWrongFalsely : Prop := rowWritesRow.holds Try.pinned (OpenSpec.ofChange rowWritesWrong)

/-- 'tompionlaw04.RowReads': WHATEVER THE INPUT: true; the input reads as it did. -/
def rowReadsSpec : ChangeSpec := { name := "rowReads", fn := fun _ => fun
  | [d1, d2] => { results := [.lit (.bool true)], args := [d1, d2] }
  | _ => none }
def rowReadsRow : OpenClaim := { program := "ythplicnidknphaa", sum := "c17e5d783c48474b2ce4de2d7d03780a0aa6ad116448412b31f81320da8b668c", func := "tompion/tompionlaw04.RowReads", spec := "rowReads", unfollowed := true, recurses := true, apart := false }
def RowReadsSaid : Prop := rowReadsRow.holds Try.pinned (OpenSpec.ofChange rowReadsSpec)

/-- ITS FALSE NEIGHBOUR: 'it returns false'. Refute it at one input. -/
def rowReadsWrong : ChangeSpec := { name := "rowReads", fn := fun _ => fun
  | [d1, d2] => { results := [.lit (.bool false)], args := [d1, d2] }
  | _ => none }
def RowReadsWrongFalsely : Prop := rowReadsRow.holds Try.pinned (OpenSpec.ofChange rowReadsWrong)

/-- 'tompionlaw04.RowBack': WHATEVER THE INPUT: true; the input reads as it did. -/
def rowBackSpec : ChangeSpec := { name := "rowBack", fn := fun _ => fun
  | [d1, d2, d3] => { results := [.lit (.bool true)], args := [d1, d2, d3] }
  | _ => none }
def rowBackRow : OpenClaim := { program := "ythplicnidknphaa", sum := "c17e5d783c48474b2ce4de2d7d03780a0aa6ad116448412b31f81320da8b668c", func := "tompion/tompionlaw04.RowBack", spec := "rowBack", unfollowed := true, recurses := true, apart := false }
def RowBackSaid : Prop := rowBackRow.holds Try.pinned (OpenSpec.ofChange rowBackSpec)

/-- ITS FALSE NEIGHBOUR: 'it returns false'. Refute it at one input. -/
def rowBackWrong : ChangeSpec := { name := "rowBack", fn := fun _ => fun
  | [d1, d2, d3] => { results := [.lit (.bool false)], args := [d1, d2, d3] }
  | _ => none }
def RowBackWrongFalsely : Prop := rowBackRow.holds Try.pinned (OpenSpec.ofChange rowBackWrong)

/-- 'tompionlaw34.StateWrites': WHATEVER THE INPUT: true; the input reads as it did. -/
def stateWritesSpec : ChangeSpec := { name := "stateWrites", fn := fun _ => fun
  | [d1, d2, d3] => { results := [.lit (.bool true)], args := [d1, d2, d3] }
  | _ => none }
def stateWritesRow : OpenClaim := { program := "ythplicnidknphaa", sum := "c17e5d783c48474b2ce4de2d7d03780a0aa6ad116448412b31f81320da8b668c", func := "tompion/tompionlaw34.StateWrites", spec := "stateWrites", apart := false }
def StateWritesSaid : Prop := stateWritesRow.holds Try.pinned (OpenSpec.ofChange stateWritesSpec)

/-- ITS FALSE NEIGHBOUR: 'it returns false'. Refute it at one input. -/
def stateWritesWrong : ChangeSpec := { name := "stateWrites", fn := fun _ => fun
  | [d1, d2, d3] => { results := [.lit (.bool false)], args := [d1, d2, d3] }
  | _ => none }
def StateWritesWrongFalsely : Prop := stateWritesRow.holds Try.pinned (OpenSpec.ofChange stateWritesWrong)

/-- 'tompionlaw34.StateReads': WHATEVER THE INPUT: true; the input reads as it did. -/
def stateReadsSpec : ChangeSpec := { name := "stateReads", fn := fun _ => fun
  | [d1, d2] => { results := [.lit (.bool true)], args := [d1, d2] }
  | _ => none }
def stateReadsRow : OpenClaim := { program := "ythplicnidknphaa", sum := "c17e5d783c48474b2ce4de2d7d03780a0aa6ad116448412b31f81320da8b668c", func := "tompion/tompionlaw34.StateReads", spec := "stateReads", unfollowed := true, recurses := true, apart := false }
def StateReadsSaid : Prop := stateReadsRow.holds Try.pinned (OpenSpec.ofChange stateReadsSpec)

/-- ITS FALSE NEIGHBOUR: 'it returns false'. Refute it at one input. -/
def stateReadsWrong : ChangeSpec := { name := "stateReads", fn := fun _ => fun
  | [d1, d2] => { results := [.lit (.bool false)], args := [d1, d2] }
  | _ => none }
def StateReadsWrongFalsely : Prop := stateReadsRow.holds Try.pinned (OpenSpec.ofChange stateReadsWrong)

/-- 'tompionlaw34.StateBack': WHATEVER THE INPUT: true; the input reads as it did. -/
def stateBackSpec : ChangeSpec := { name := "stateBack", fn := fun _ => fun
  | [d1, d2, d3] => { results := [.lit (.bool true)], args := [d1, d2, d3] }
  | _ => none }
def stateBackRow : OpenClaim := { program := "ythplicnidknphaa", sum := "c17e5d783c48474b2ce4de2d7d03780a0aa6ad116448412b31f81320da8b668c", func := "tompion/tompionlaw34.StateBack", spec := "stateBack", unfollowed := true, recurses := true, apart := false }
def StateBackSaid : Prop := stateBackRow.holds Try.pinned (OpenSpec.ofChange stateBackSpec)

/-- ITS FALSE NEIGHBOUR: 'it returns false'. Refute it at one input. -/
def stateBackWrong : ChangeSpec := { name := "stateBack", fn := fun _ => fun
  | [d1, d2, d3] => { results := [.lit (.bool false)], args := [d1, d2, d3] }
  | _ => none }
def StateBackWrongFalsely : Prop := stateBackRow.holds Try.pinned (OpenSpec.ofChange stateBackWrong)

/-- 'tompionlaw27.CodeEncodes': WHATEVER THE INPUT: true; the input reads as it did. -/
def codeEncodesSpec : ChangeSpec := { name := "codeEncodes", fn := fun _ => fun
  | [d1, d2] => { results := [.lit (.bool true)], args := [d1, d2] }
  | _ => none }
def codeEncodesRow : OpenClaim := { program := "ythplicnidknphaa", sum := "c17e5d783c48474b2ce4de2d7d03780a0aa6ad116448412b31f81320da8b668c", func := "tompion/tompionlaw27.CodeEncodes", spec := "codeEncodes", recurses := true, apart := false }
def CodeEncodesSaid : Prop := codeEncodesRow.holds Try.pinned (OpenSpec.ofChange codeEncodesSpec)

/-- ITS FALSE NEIGHBOUR: 'it returns false'. Refute it at one input. -/
def codeEncodesWrong : ChangeSpec := { name := "codeEncodes", fn := fun _ => fun
  | [d1, d2] => { results := [.lit (.bool false)], args := [d1, d2] }
  | _ => none }
def CodeEncodesWrongFalsely : Prop := codeEncodesRow.holds Try.pinned (OpenSpec.ofChange codeEncodesWrong)

/-- 'tompionlaw27.CodeDecodes': WHATEVER THE INPUT: true; the input reads as it did. -/
def codeDecodesSpec : ChangeSpec := { name := "codeDecodes", fn := fun _ => fun
  | [d] => { results := [.lit (.bool true)], args := [d] }
  | _ => none }
def codeDecodesRow : OpenClaim := { program := "ythplicnidknphaa", sum := "c17e5d783c48474b2ce4de2d7d03780a0aa6ad116448412b31f81320da8b668c", func := "tompion/tompionlaw27.CodeDecodes", spec := "codeDecodes", apart := false }
def CodeDecodesSaid : Prop := codeDecodesRow.holds Try.pinned (OpenSpec.ofChange codeDecodesSpec)

/-- ITS FALSE NEIGHBOUR: 'it returns false'. Refute it at one input. -/
def codeDecodesWrong : ChangeSpec := { name := "codeDecodes", fn := fun _ => fun
  | [d] => { results := [.lit (.bool false)], args := [d] }
  | _ => none }
def CodeDecodesWrongFalsely : Prop := codeDecodesRow.holds Try.pinned (OpenSpec.ofChange codeDecodesWrong)

/-- 'tompionlaw27.CodeBack': WHATEVER THE INPUT: true; the input reads as it did. -/
def codeBackSpec : ChangeSpec := { name := "codeBack", fn := fun _ => fun
  | [d1, d2] => { results := [.lit (.bool true)], args := [d1, d2] }
  | _ => none }
def codeBackRow : OpenClaim := { program := "ythplicnidknphaa", sum := "c17e5d783c48474b2ce4de2d7d03780a0aa6ad116448412b31f81320da8b668c", func := "tompion/tompionlaw27.CodeBack", spec := "codeBack", apart := false }
def CodeBackSaid : Prop := codeBackRow.holds Try.pinned (OpenSpec.ofChange codeBackSpec)

/-- ITS FALSE NEIGHBOUR: 'it returns false'. Refute it at one input. -/
def codeBackWrong : ChangeSpec := { name := "codeBack", fn := fun _ => fun
  | [d1, d2] => { results := [.lit (.bool false)], args := [d1, d2] }
  | _ => none }
def CodeBackWrongFalsely : Prop := codeBackRow.holds Try.pinned (OpenSpec.ofChange codeBackWrong)

/-- 'tompionlaw32.DigestOf': WHATEVER THE INPUT: true; the input reads as it did. -/
def digestOfSpec : ChangeSpec := { name := "digestOf", fn := fun _ => fun
  | [d] => { results := [.lit (.bool true)], args := [d] }
  | _ => none }
def digestOfRow : OpenClaim := { program := "ythplicnidknphaa", sum := "c17e5d783c48474b2ce4de2d7d03780a0aa6ad116448412b31f81320da8b668c", func := "tompion/tompionlaw32.DigestOf", spec := "digestOf", recurses := true, apart := false }
def DigestOfSaid : Prop := digestOfRow.holds Try.pinned (OpenSpec.ofChange digestOfSpec)

/-- ITS FALSE NEIGHBOUR: 'it returns false'. Refute it at one input. -/
def digestOfWrong : ChangeSpec := { name := "digestOf", fn := fun _ => fun
  | [d] => { results := [.lit (.bool false)], args := [d] }
  | _ => none }
def DigestOfWrongFalsely : Prop := digestOfRow.holds Try.pinned (OpenSpec.ofChange digestOfWrong)

/-- 'tompionlaw44.LotDraws': WHATEVER THE INPUT: true; the input reads as it did. -/
def lotDrawsSpec : ChangeSpec := { name := "lotDraws", fn := fun _ => fun
  | [d1, d2, d3] => { results := [.lit (.bool true)], args := [d1, d2, d3] }
  | _ => none }
def lotDrawsRow : OpenClaim := { program := "ythplicnidknphaa", sum := "c17e5d783c48474b2ce4de2d7d03780a0aa6ad116448412b31f81320da8b668c", func := "tompion/tompionlaw44.LotDraws", spec := "lotDraws", unfollowed := true, recurses := true, apart := false }
def LotDrawsSaid : Prop := lotDrawsRow.holds Try.pinned (OpenSpec.ofChange lotDrawsSpec)

/-- ITS FALSE NEIGHBOUR: 'it returns false'. Refute it at one input. -/
def lotDrawsWrong : ChangeSpec := { name := "lotDraws", fn := fun _ => fun
  | [d1, d2, d3] => { results := [.lit (.bool false)], args := [d1, d2, d3] }
  | _ => none }
def LotDrawsWrongFalsely : Prop := lotDrawsRow.holds Try.pinned (OpenSpec.ofChange lotDrawsWrong)

/-- 'tompionlaw44.LotEvents': WHATEVER THE INPUT: true; the input reads as it did. -/
def lotEventsSpec : ChangeSpec := { name := "lotEvents", fn := fun _ => fun
  | [d1, d2, d3] => { results := [.lit (.bool true)], args := [d1, d2, d3] }
  | _ => none }
def lotEventsRow : OpenClaim := { program := "ythplicnidknphaa", sum := "c17e5d783c48474b2ce4de2d7d03780a0aa6ad116448412b31f81320da8b668c", func := "tompion/tompionlaw44.LotEvents", spec := "lotEvents", unfollowed := true, recurses := true, apart := false }
def LotEventsSaid : Prop := lotEventsRow.holds Try.pinned (OpenSpec.ofChange lotEventsSpec)

/-- ITS FALSE NEIGHBOUR: 'it returns false'. Refute it at one input. -/
def lotEventsWrong : ChangeSpec := { name := "lotEvents", fn := fun _ => fun
  | [d1, d2, d3] => { results := [.lit (.bool false)], args := [d1, d2, d3] }
  | _ => none }
def LotEventsWrongFalsely : Prop := lotEventsRow.holds Try.pinned (OpenSpec.ofChange lotEventsWrong)

/- THE SECOND FORM. 'bulk': how many values and letters a reading holds, each counted each time it is reached (what is shared counts as often as it is met; a slice's spare places count too). A statement '..UptoSaid' is the law's where the arguments, and the package variables that the reading takes, are together of bulk at most 1048576: NARROWER than '..Said'. Prove '..Said' where nothing that the law and all that it calls make is longer than what came in: it says more and counts as full. Else prove '..UptoSaid'. A law counts once. -/
mutual
def uptoBulk {H : Type} : DataW H → Nat
  | .lit (.string bytes) => bytes.length + 1
  | .lit _ => 1
  | .nil => 1
  | .ptr d => uptoBulk d + 1
  | .slice elems spare => uptoBulkAll elems + uptoBulkAll spare + 1
  | .agg parts => uptoBulkAll parts + 1
  | .iface _ d => uptoBulk d + 1
  | .map entries => uptoBulkEntries entries + 1
  | .held _ => 1
def uptoBulkAll {H : Type} : List (DataW H) → Nat
  | [] => 0
  | d :: r => uptoBulk d + uptoBulkAll r
def uptoBulkEntries {H : Type} : List (Lit × DataW H) → Nat
  | [] => 0
  | x :: r => uptoBulkEntry x + uptoBulkEntries r
def uptoBulkEntry {H : Type} : Lit × DataW H → Nat
  | (.string bytes, d) => bytes.length + uptoBulk d + 1
  | (_, d) => uptoBulk d + 1
 end
def uptoSmall : (H : Type) → List (DataW H) → Bool := fun _ ds => decide (uptoBulkAll ds ≤ 1048576)
def OpenSpec.upto (s : _root_.Go.ChangeSpec) : _root_.Go.OpenSpec := { _root_.Go.OpenSpec.ofChange s with cond := some uptoSmall }

/-- 'tompionlaw04.RowWrites', WHERE WHAT IT READS IS OF BULK AT MOST 1048576: true; the input reads as it did. -/
def rowWritesUptoRow : OpenClaim := { program := "ythplicnidknphaa", sum := "c17e5d783c48474b2ce4de2d7d03780a0aa6ad116448412b31f81320da8b668c", func := "tompion/tompionlaw04.RowWrites", spec := "rowWrites", unfollowed := true, recurses := true, apart := false, narrowed := true }
def RowWritesUptoSaid : Prop := rowWritesUptoRow.holds Try.pinned (OpenSpec.upto rowWritesSpec)

/-- 'tompionlaw04.RowReads', WHERE WHAT IT READS IS OF BULK AT MOST 1048576: true; the input reads as it did. -/
def rowReadsUptoRow : OpenClaim := { program := "ythplicnidknphaa", sum := "c17e5d783c48474b2ce4de2d7d03780a0aa6ad116448412b31f81320da8b668c", func := "tompion/tompionlaw04.RowReads", spec := "rowReads", unfollowed := true, recurses := true, apart := false, narrowed := true }
def RowReadsUptoSaid : Prop := rowReadsUptoRow.holds Try.pinned (OpenSpec.upto rowReadsSpec)

/-- 'tompionlaw04.RowBack', WHERE WHAT IT READS IS OF BULK AT MOST 1048576: true; the input reads as it did. -/
def rowBackUptoRow : OpenClaim := { program := "ythplicnidknphaa", sum := "c17e5d783c48474b2ce4de2d7d03780a0aa6ad116448412b31f81320da8b668c", func := "tompion/tompionlaw04.RowBack", spec := "rowBack", unfollowed := true, recurses := true, apart := false, narrowed := true }
def RowBackUptoSaid : Prop := rowBackUptoRow.holds Try.pinned (OpenSpec.upto rowBackSpec)

/-- 'tompionlaw34.StateWrites', WHERE WHAT IT READS IS OF BULK AT MOST 1048576: true; the input reads as it did. -/
def stateWritesUptoRow : OpenClaim := { program := "ythplicnidknphaa", sum := "c17e5d783c48474b2ce4de2d7d03780a0aa6ad116448412b31f81320da8b668c", func := "tompion/tompionlaw34.StateWrites", spec := "stateWrites", apart := false, narrowed := true }
def StateWritesUptoSaid : Prop := stateWritesUptoRow.holds Try.pinned (OpenSpec.upto stateWritesSpec)

/-- 'tompionlaw34.StateReads', WHERE WHAT IT READS IS OF BULK AT MOST 1048576: true; the input reads as it did. -/
def stateReadsUptoRow : OpenClaim := { program := "ythplicnidknphaa", sum := "c17e5d783c48474b2ce4de2d7d03780a0aa6ad116448412b31f81320da8b668c", func := "tompion/tompionlaw34.StateReads", spec := "stateReads", unfollowed := true, recurses := true, apart := false, narrowed := true }
def StateReadsUptoSaid : Prop := stateReadsUptoRow.holds Try.pinned (OpenSpec.upto stateReadsSpec)

/-- 'tompionlaw34.StateBack', WHERE WHAT IT READS IS OF BULK AT MOST 1048576: true; the input reads as it did. -/
def stateBackUptoRow : OpenClaim := { program := "ythplicnidknphaa", sum := "c17e5d783c48474b2ce4de2d7d03780a0aa6ad116448412b31f81320da8b668c", func := "tompion/tompionlaw34.StateBack", spec := "stateBack", unfollowed := true, recurses := true, apart := false, narrowed := true }
def StateBackUptoSaid : Prop := stateBackUptoRow.holds Try.pinned (OpenSpec.upto stateBackSpec)

/-- 'tompionlaw27.CodeEncodes', WHERE WHAT IT READS IS OF BULK AT MOST 1048576: true; the input reads as it did. -/
def codeEncodesUptoRow : OpenClaim := { program := "ythplicnidknphaa", sum := "c17e5d783c48474b2ce4de2d7d03780a0aa6ad116448412b31f81320da8b668c", func := "tompion/tompionlaw27.CodeEncodes", spec := "codeEncodes", recurses := true, apart := false, narrowed := true }
def CodeEncodesUptoSaid : Prop := codeEncodesUptoRow.holds Try.pinned (OpenSpec.upto codeEncodesSpec)

/-- 'tompionlaw27.CodeDecodes', WHERE WHAT IT READS IS OF BULK AT MOST 1048576: true; the input reads as it did. -/
def codeDecodesUptoRow : OpenClaim := { program := "ythplicnidknphaa", sum := "c17e5d783c48474b2ce4de2d7d03780a0aa6ad116448412b31f81320da8b668c", func := "tompion/tompionlaw27.CodeDecodes", spec := "codeDecodes", apart := false, narrowed := true }
def CodeDecodesUptoSaid : Prop := codeDecodesUptoRow.holds Try.pinned (OpenSpec.upto codeDecodesSpec)

/-- 'tompionlaw27.CodeBack', WHERE WHAT IT READS IS OF BULK AT MOST 1048576: true; the input reads as it did. -/
def codeBackUptoRow : OpenClaim := { program := "ythplicnidknphaa", sum := "c17e5d783c48474b2ce4de2d7d03780a0aa6ad116448412b31f81320da8b668c", func := "tompion/tompionlaw27.CodeBack", spec := "codeBack", apart := false, narrowed := true }
def CodeBackUptoSaid : Prop := codeBackUptoRow.holds Try.pinned (OpenSpec.upto codeBackSpec)

/-- 'tompionlaw32.DigestOf', WHERE WHAT IT READS IS OF BULK AT MOST 1048576: true; the input reads as it did. -/
def digestOfUptoRow : OpenClaim := { program := "ythplicnidknphaa", sum := "c17e5d783c48474b2ce4de2d7d03780a0aa6ad116448412b31f81320da8b668c", func := "tompion/tompionlaw32.DigestOf", spec := "digestOf", recurses := true, apart := false, narrowed := true }
def DigestOfUptoSaid : Prop := digestOfUptoRow.holds Try.pinned (OpenSpec.upto digestOfSpec)

/-- 'tompionlaw44.LotDraws', WHERE WHAT IT READS IS OF BULK AT MOST 1048576: true; the input reads as it did. -/
def lotDrawsUptoRow : OpenClaim := { program := "ythplicnidknphaa", sum := "c17e5d783c48474b2ce4de2d7d03780a0aa6ad116448412b31f81320da8b668c", func := "tompion/tompionlaw44.LotDraws", spec := "lotDraws", unfollowed := true, recurses := true, apart := false, narrowed := true }
def LotDrawsUptoSaid : Prop := lotDrawsUptoRow.holds Try.pinned (OpenSpec.upto lotDrawsSpec)

/-- 'tompionlaw44.LotEvents', WHERE WHAT IT READS IS OF BULK AT MOST 1048576: true; the input reads as it did. -/
def lotEventsUptoRow : OpenClaim := { program := "ythplicnidknphaa", sum := "c17e5d783c48474b2ce4de2d7d03780a0aa6ad116448412b31f81320da8b668c", func := "tompion/tompionlaw44.LotEvents", spec := "lotEvents", unfollowed := true, recurses := true, apart := false, narrowed := true }
def LotEventsUptoSaid : Prop := lotEventsUptoRow.holds Try.pinned (OpenSpec.upto lotEventsSpec)

end Rows
end Go.Proofs.Ythplicnidknphaa
