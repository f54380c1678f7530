/-
  No cell of these rows narrows 'for every input' (looked for: loops, veiled, ifaces, maps, wideKeys, modest, calm, conditions, laid).
  DERIVED. THE GIVEN ROWS OF THIS SEAT. 6 by the template 'for every input the law returns true; each argument reads behind the call as it read before'; 0 by the template 'total and deterministic' (their statements: YtkhihgilodhjfaaTotals.lean).
  GIVEN WITH THE SEED: the statements are not yours to turn. If you find one false, say at which input.
  Laid BY PROGRAM, IN A SANDBOX (cutbox-rows.mjs): the forced cells as the released guide's own fill.sh prints them over the translation 3fedd75da095ec56… (all of the seat's roots in one cut). By AI agents, Wed Nov 11 2026. No macro, syntax, notation, axiom, sorry.
-/
import Derived.Test.YtkhihgilodhjfaaChecked
import GoSem.Claim
import GoSem.ClaimJoined
import GoSem.ClaimMapViews
import Derived.JoinedTies
import Derived.KernelRfl
namespace Go.Proofs.Ytkhihgilodhjfaa
/- THE CELL 'sum', in the pinned program and in every row, IS THE sha256 OF THE DUMP (.gsa) THAT YtkhihgilodhjfaaProg.lean LOADS. Nothing in Lean hashes anything: it is a label: what it is worth is what the hold of that sum in a sandbox is worth. -/
noncomputable def Try.pinned : Pinned := { name := "ytkhihgilodhjfaa", sum := "3fedd75da095ec56fa8845cf91975bc4a0806ce513808ed7b20467e2e1ee7c4e", checked := Try.checked }
namespace Rows
def none {H : Type} : Left H := { results := [], args := [] }

/-- 'tompionlaw34.StateBack': WHATEVER THE INPUT: true; the input reads as it did. -/
def stateBackSpec : ChangeSpec := { name := "stateBack", fn := fun _ => fun
  | [d1, d2, d3] => { results := [.lit (.bool true)], args := [d1, d2, d3] }
  | _ => none }
def stateBackRow : OpenClaim := { program := "ytkhihgilodhjfaa", sum := "3fedd75da095ec56fa8845cf91975bc4a0806ce513808ed7b20467e2e1ee7c4e", func := "tompion/tompionlaw34.StateBack", spec := "stateBack", unfollowed := true, recurses := true, apart := false }
def StateBackSaid : Prop := stateBackRow.holds Try.pinned (OpenSpec.ofChange stateBackSpec)

/-- ITS FALSE NEIGHBOUR: 'it returns false'. Refute it at one input. -/
def stateBackWrong : ChangeSpec := { name := "stateBack", fn := fun _ => fun
  | [d1, d2, d3] => { results := [.lit (.bool false)], args := [d1, d2, d3] }
  | _ => none }
def StateBackWrongFalsely : Prop := stateBackRow.holds Try.pinned (OpenSpec.ofChange stateBackWrong)

/-- 'tompionlaw27.CodeDecodes': WHATEVER THE INPUT: true; the input reads as it did. -/
def codeDecodesSpec : ChangeSpec := { name := "codeDecodes", fn := fun _ => fun
  | [d] => { results := [.lit (.bool true)], args := [d] }
  | _ => none }
def codeDecodesRow : OpenClaim := { program := "ytkhihgilodhjfaa", sum := "3fedd75da095ec56fa8845cf91975bc4a0806ce513808ed7b20467e2e1ee7c4e", func := "tompion/tompionlaw27.CodeDecodes", spec := "codeDecodes", apart := false }
def CodeDecodesSaid : Prop := codeDecodesRow.holds Try.pinned (OpenSpec.ofChange codeDecodesSpec)

/-- ITS FALSE NEIGHBOUR: 'it returns false'. Refute it at one input. -/
def codeDecodesWrong : ChangeSpec := { name := "codeDecodes", fn := fun _ => fun
  | [d] => { results := [.lit (.bool false)], args := [d] }
  | _ => none }
def CodeDecodesWrongFalsely : Prop := codeDecodesRow.holds Try.pinned (OpenSpec.ofChange codeDecodesWrong)

/-- 'tompionlaw27.CodeBack': WHATEVER THE INPUT: true; the input reads as it did. -/
def codeBackSpec : ChangeSpec := { name := "codeBack", fn := fun _ => fun
  | [d1, d2] => { results := [.lit (.bool true)], args := [d1, d2] }
  | _ => none }
def codeBackRow : OpenClaim := { program := "ytkhihgilodhjfaa", sum := "3fedd75da095ec56fa8845cf91975bc4a0806ce513808ed7b20467e2e1ee7c4e", func := "tompion/tompionlaw27.CodeBack", spec := "codeBack", apart := false }
def CodeBackSaid : Prop := codeBackRow.holds Try.pinned (OpenSpec.ofChange codeBackSpec)

/-- ITS FALSE NEIGHBOUR: 'it returns false'. Refute it at one input. -/
def codeBackWrong : ChangeSpec := { name := "codeBack", fn := fun _ => fun
  | [d1, d2] => { results := [.lit (.bool false)], args := [d1, d2] }
  | _ => none }
def CodeBackWrongFalsely : Prop := codeBackRow.holds Try.pinned (OpenSpec.ofChange codeBackWrong)

/-- 'tompionlaw44.LotDraws': WHATEVER THE INPUT: true; the input reads as it did. -/
def lotDrawsSpec : ChangeSpec := { name := "lotDraws", fn := fun _ => fun
  | [d1, d2, d3] => { results := [.lit (.bool true)], args := [d1, d2, d3] }
  | _ => none }
def lotDrawsRow : OpenClaim := { program := "ytkhihgilodhjfaa", sum := "3fedd75da095ec56fa8845cf91975bc4a0806ce513808ed7b20467e2e1ee7c4e", func := "tompion/tompionlaw44.LotDraws", spec := "lotDraws", unfollowed := true, recurses := true, apart := false }
def LotDrawsSaid : Prop := lotDrawsRow.holds Try.pinned (OpenSpec.ofChange lotDrawsSpec)

/-- ITS FALSE NEIGHBOUR: 'it returns false'. Refute it at one input. -/
def lotDrawsWrong : ChangeSpec := { name := "lotDraws", fn := fun _ => fun
  | [d1, d2, d3] => { results := [.lit (.bool false)], args := [d1, d2, d3] }
  | _ => none }
def LotDrawsWrongFalsely : Prop := lotDrawsRow.holds Try.pinned (OpenSpec.ofChange lotDrawsWrong)

/-- 'tompionlaw44.LotEvents': WHATEVER THE INPUT: true; the input reads as it did. -/
def lotEventsSpec : ChangeSpec := { name := "lotEvents", fn := fun _ => fun
  | [d1, d2, d3] => { results := [.lit (.bool true)], args := [d1, d2, d3] }
  | _ => none }
def lotEventsRow : OpenClaim := { program := "ytkhihgilodhjfaa", sum := "3fedd75da095ec56fa8845cf91975bc4a0806ce513808ed7b20467e2e1ee7c4e", func := "tompion/tompionlaw44.LotEvents", spec := "lotEvents", unfollowed := true, recurses := true, apart := false }
def LotEventsSaid : Prop := lotEventsRow.holds Try.pinned (OpenSpec.ofChange lotEventsSpec)

/-- ITS FALSE NEIGHBOUR: 'it returns false'. Refute it at one input. -/
def lotEventsWrong : ChangeSpec := { name := "lotEvents", fn := fun _ => fun
  | [d1, d2, d3] => { results := [.lit (.bool false)], args := [d1, d2, d3] }
  | _ => none }
def LotEventsWrongFalsely : Prop := lotEventsRow.holds Try.pinned (OpenSpec.ofChange lotEventsWrong)

/-- 'tompionlaw45.StatBoth': WHATEVER THE INPUT: true; the input reads as it did. -/
def statBothSpec : ChangeSpec := { name := "statBoth", fn := fun _ => fun
  | [d1, d2, d3] => { results := [.lit (.bool true)], args := [d1, d2, d3] }
  | _ => none }
def statBothRow : OpenClaim := { program := "ytkhihgilodhjfaa", sum := "3fedd75da095ec56fa8845cf91975bc4a0806ce513808ed7b20467e2e1ee7c4e", func := "tompion/tompionlaw45.StatBoth", spec := "statBoth", apart := false }
def StatBothSaid : Prop := statBothRow.holds Try.pinned (OpenSpec.ofChange statBothSpec)

/-- ITS FALSE NEIGHBOUR: 'it returns false'. Refute it at one input. -/
def statBothWrong : ChangeSpec := { name := "statBoth", fn := fun _ => fun
  | [d1, d2, d3] => { results := [.lit (.bool false)], args := [d1, d2, d3] }
  | _ => none }
def StatBothWrongFalsely : Prop := statBothRow.holds Try.pinned (OpenSpec.ofChange statBothWrong)

/- THE SECOND FORM. 'bulk': how many values and letters a reading holds, each counted each time it is reached (what is shared counts as often as it is met; a slice's spare places count too). A statement '..UptoSaid' is the law's where the arguments, and the package variables that the reading takes, are together of bulk at most 1048576: NARROWER than '..Said'. Prove '..Said' where nothing that the law and all that it calls make is longer than what came in: it says more and counts as full. Else prove '..UptoSaid'. A law counts once. -/
mutual
def uptoBulk {H : Type} : DataW H → Nat
  | .lit (.string bytes) => bytes.length + 1
  | .lit _ => 1
  | .nil => 1
  | .ptr d => uptoBulk d + 1
  | .slice elems spare => uptoBulkAll elems + uptoBulkAll spare + 1
  | .agg parts => uptoBulkAll parts + 1
  | .iface _ d => uptoBulk d + 1
  | .map entries => uptoBulkEntries entries + 1
  | .held _ => 1
def uptoBulkAll {H : Type} : List (DataW H) → Nat
  | [] => 0
  | d :: r => uptoBulk d + uptoBulkAll r
def uptoBulkEntries {H : Type} : List (Lit × DataW H) → Nat
  | [] => 0
  | x :: r => uptoBulkEntry x + uptoBulkEntries r
def uptoBulkEntry {H : Type} : Lit × DataW H → Nat
  | (.string bytes, d) => bytes.length + uptoBulk d + 1
  | (_, d) => uptoBulk d + 1
 end
def uptoSmall : (H : Type) → List (DataW H) → Bool := fun _ ds => decide (uptoBulkAll ds ≤ 1048576)
def OpenSpec.upto (s : _root_.Go.ChangeSpec) : _root_.Go.OpenSpec := { _root_.Go.OpenSpec.ofChange s with cond := some uptoSmall }

/-- 'tompionlaw34.StateBack', WHERE WHAT IT READS IS OF BULK AT MOST 1048576: true; the input reads as it did. -/
def stateBackUptoRow : OpenClaim := { program := "ytkhihgilodhjfaa", sum := "3fedd75da095ec56fa8845cf91975bc4a0806ce513808ed7b20467e2e1ee7c4e", func := "tompion/tompionlaw34.StateBack", spec := "stateBack", unfollowed := true, recurses := true, apart := false, narrowed := true }
def StateBackUptoSaid : Prop := stateBackUptoRow.holds Try.pinned (OpenSpec.upto stateBackSpec)

/-- 'tompionlaw27.CodeDecodes', WHERE WHAT IT READS IS OF BULK AT MOST 1048576: true; the input reads as it did. -/
def codeDecodesUptoRow : OpenClaim := { program := "ytkhihgilodhjfaa", sum := "3fedd75da095ec56fa8845cf91975bc4a0806ce513808ed7b20467e2e1ee7c4e", func := "tompion/tompionlaw27.CodeDecodes", spec := "codeDecodes", apart := false, narrowed := true }
def CodeDecodesUptoSaid : Prop := codeDecodesUptoRow.holds Try.pinned (OpenSpec.upto codeDecodesSpec)

/-- 'tompionlaw27.CodeBack', WHERE WHAT IT READS IS OF BULK AT MOST 1048576: true; the input reads as it did. -/
def codeBackUptoRow : OpenClaim := { program := "ytkhihgilodhjfaa", sum := "3fedd75da095ec56fa8845cf91975bc4a0806ce513808ed7b20467e2e1ee7c4e", func := "tompion/tompionlaw27.CodeBack", spec := "codeBack", apart := false, narrowed := true }
def CodeBackUptoSaid : Prop := codeBackUptoRow.holds Try.pinned (OpenSpec.upto codeBackSpec)

/-- 'tompionlaw44.LotDraws', WHERE WHAT IT READS IS OF BULK AT MOST 1048576: true; the input reads as it did. -/
def lotDrawsUptoRow : OpenClaim := { program := "ytkhihgilodhjfaa", sum := "3fedd75da095ec56fa8845cf91975bc4a0806ce513808ed7b20467e2e1ee7c4e", func := "tompion/tompionlaw44.LotDraws", spec := "lotDraws", unfollowed := true, recurses := true, apart := false, narrowed := true }
def LotDrawsUptoSaid : Prop := lotDrawsUptoRow.holds Try.pinned (OpenSpec.upto lotDrawsSpec)

/-- 'tompionlaw44.LotEvents', WHERE WHAT IT READS IS OF BULK AT MOST 1048576: true; the input reads as it did. -/
def lotEventsUptoRow : OpenClaim := { program := "ytkhihgilodhjfaa", sum := "3fedd75da095ec56fa8845cf91975bc4a0806ce513808ed7b20467e2e1ee7c4e", func := "tompion/tompionlaw44.LotEvents", spec := "lotEvents", unfollowed := true, recurses := true, apart := false, narrowed := true }
def LotEventsUptoSaid : Prop := lotEventsUptoRow.holds Try.pinned (OpenSpec.upto lotEventsSpec)

/-- 'tompionlaw45.StatBoth', WHERE WHAT IT READS IS OF BULK AT MOST 1048576: true; the input reads as it did. -/
def statBothUptoRow : OpenClaim := { program := "ytkhihgilodhjfaa", sum := "3fedd75da095ec56fa8845cf91975bc4a0806ce513808ed7b20467e2e1ee7c4e", func := "tompion/tompionlaw45.StatBoth", spec := "statBoth", apart := false, narrowed := true }
def StatBothUptoSaid : Prop := statBothUptoRow.holds Try.pinned (OpenSpec.upto statBothSpec)

end Rows
end Go.Proofs.Ytkhihgilodhjfaa
