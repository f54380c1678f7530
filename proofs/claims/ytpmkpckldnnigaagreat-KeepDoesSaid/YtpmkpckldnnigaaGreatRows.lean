/-
  No cell of these rows narrows 'for every input' (looked for: loops, veiled, ifaces, maps, wideKeys, modest, calm, conditions, laid).
  DERIVED. THE GIVEN ROWS OF THIS SEAT. 6 by the template 'for every input the law returns true; each argument reads behind the call as it read before'; 0 by the template 'total and deterministic' (their statements: YtpmkpckldnnigaaGreatTotals.lean).
  GIVEN WITH THE SEED: the statements are not yours to turn. If you find one false, say at which input.
  Laid BY PROGRAM, IN A SANDBOX (cutbox-rows.mjs): the forced cells as the released guide's own fill.sh prints them over the translation 1f9572e5d24d95a0… (all of the seat's roots in one cut). By AI agents, Wed Nov 11 2026. No macro, syntax, notation, axiom, sorry.
-/
import Derived.Test.YtpmkpckldnnigaaGreatChecked
import GoSem.Claim
import GoSem.ClaimJoined
import GoSem.ClaimMapViews
import Derived.JoinedTies
import Derived.KernelRfl
namespace Go.Proofs.YtpmkpckldnnigaaGreat
/- THE CELL 'sum', in the pinned program and in every row, IS THE sha256 OF THE DUMP (.gsa) THAT YtpmkpckldnnigaaGreatProg.lean LOADS. Nothing in Lean hashes anything: it is a label: what it is worth is what the hold of that sum in a sandbox is worth. -/
noncomputable def Tryz.pinned : Pinned := { name := "ytpmkpckldnnigaagreat", sum := "1f9572e5d24d95a08c4b6b4f3c94d06d0cd958c2f37327a8ba78ca063cf15045", checked := Tryz.checked }
namespace Rows
def none {H : Type} : Left H := { results := [], args := [] }

/-- 'tompionlaw37.KeepDoes': WHATEVER THE INPUT: true; the input reads as it did. -/
def keepDoesSpec : ChangeSpec := { name := "keepDoes", fn := fun _ => fun
  | [d1, d2, d3] => { results := [.lit (.bool true)], args := [d1, d2, d3] }
  | _ => none }
def keepDoesRow : OpenClaim := { program := "ytpmkpckldnnigaagreat", sum := "1f9572e5d24d95a08c4b6b4f3c94d06d0cd958c2f37327a8ba78ca063cf15045", func := "tompion/tompionlaw37.KeepDoes", spec := "keepDoes", inPlace := ["sync/atomic.AddInt64"], unfollowed := true, recurses := true, apart := false }
def KeepDoesSaid : Prop := keepDoesRow.holds Tryz.pinned (OpenSpec.ofChange keepDoesSpec)

/-- ITS FALSE NEIGHBOUR: 'it returns false'. Refute it at one input. -/
def keepDoesWrong : ChangeSpec := { name := "keepDoes", fn := fun _ => fun
  | [d1, d2, d3] => { results := [.lit (.bool false)], args := [d1, d2, d3] }
  | _ => none }
def KeepDoesWrongFalsely : Prop := keepDoesRow.holds Tryz.pinned (OpenSpec.ofChange keepDoesWrong)

/-- 'tompionlaw43.AuditChecks': WHATEVER THE INPUT: true; the input reads as it did. -/
def auditChecksSpec : ChangeSpec := { name := "auditChecks", fn := fun _ => fun
  | [d1, d2, d3] => { results := [.lit (.bool true)], args := [d1, d2, d3] }
  | _ => none }
def auditChecksRow : OpenClaim := { program := "ytpmkpckldnnigaagreat", sum := "1f9572e5d24d95a08c4b6b4f3c94d06d0cd958c2f37327a8ba78ca063cf15045", func := "tompion/tompionlaw43.AuditChecks", spec := "auditChecks", inPlace := ["sync/atomic.AddInt64"], unfollowed := true, recurses := true, apart := false }
def AuditChecksSaid : Prop := auditChecksRow.holds Tryz.pinned (OpenSpec.ofChange auditChecksSpec)

/-- ITS FALSE NEIGHBOUR: 'it returns false'. Refute it at one input. -/
def auditChecksWrong : ChangeSpec := { name := "auditChecks", fn := fun _ => fun
  | [d1, d2, d3] => { results := [.lit (.bool false)], args := [d1, d2, d3] }
  | _ => none }
def AuditChecksWrongFalsely : Prop := auditChecksRow.holds Tryz.pinned (OpenSpec.ofChange auditChecksWrong)

/-- 'tompionlaw38.EngineNone': WHATEVER THE INPUT: true; the input reads as it did. -/
def engineNoneSpec : ChangeSpec := { name := "engineNone", fn := fun _ => fun
  | [d1, d2] => { results := [.lit (.bool true)], args := [d1, d2] }
  | _ => none }
def engineNoneRow : OpenClaim := { program := "ytpmkpckldnnigaagreat", sum := "1f9572e5d24d95a08c4b6b4f3c94d06d0cd958c2f37327a8ba78ca063cf15045", func := "tompion/tompionlaw38.EngineNone", spec := "engineNone", inPlace := ["sync/atomic.AddInt64"], unfollowed := true, recurses := true, apart := false }
def EngineNoneSaid : Prop := engineNoneRow.holds Tryz.pinned (OpenSpec.ofChange engineNoneSpec)

/-- ITS FALSE NEIGHBOUR: 'it returns false'. Refute it at one input. -/
def engineNoneWrong : ChangeSpec := { name := "engineNone", fn := fun _ => fun
  | [d1, d2] => { results := [.lit (.bool false)], args := [d1, d2] }
  | _ => none }
def EngineNoneWrongFalsely : Prop := engineNoneRow.holds Tryz.pinned (OpenSpec.ofChange engineNoneWrong)

/-- 'tompionlaw38.EnginePieces': WHATEVER THE INPUT: true; the input reads as it did. -/
def enginePiecesSpec : ChangeSpec := { name := "enginePieces", fn := fun _ => fun
  | [d1, d2, d3] => { results := [.lit (.bool true)], args := [d1, d2, d3] }
  | _ => none }
def enginePiecesRow : OpenClaim := { program := "ytpmkpckldnnigaagreat", sum := "1f9572e5d24d95a08c4b6b4f3c94d06d0cd958c2f37327a8ba78ca063cf15045", func := "tompion/tompionlaw38.EnginePieces", spec := "enginePieces", inPlace := ["sync/atomic.AddInt64"], unfollowed := true, recurses := true, apart := false }
def EnginePiecesSaid : Prop := enginePiecesRow.holds Tryz.pinned (OpenSpec.ofChange enginePiecesSpec)

/-- ITS FALSE NEIGHBOUR: 'it returns false'. Refute it at one input. -/
def enginePiecesWrong : ChangeSpec := { name := "enginePieces", fn := fun _ => fun
  | [d1, d2, d3] => { results := [.lit (.bool false)], args := [d1, d2, d3] }
  | _ => none }
def EnginePiecesWrongFalsely : Prop := enginePiecesRow.holds Tryz.pinned (OpenSpec.ofChange enginePiecesWrong)

/-- 'tompionlaw38.EngineWhole': WHATEVER THE INPUT: true; the input reads as it did. -/
def engineWholeSpec : ChangeSpec := { name := "engineWhole", fn := fun _ => fun
  | [d1, d2, d3] => { results := [.lit (.bool true)], args := [d1, d2, d3] }
  | _ => none }
def engineWholeRow : OpenClaim := { program := "ytpmkpckldnnigaagreat", sum := "1f9572e5d24d95a08c4b6b4f3c94d06d0cd958c2f37327a8ba78ca063cf15045", func := "tompion/tompionlaw38.EngineWhole", spec := "engineWhole", inPlace := ["sync/atomic.AddInt64"], unfollowed := true, recurses := true, apart := false }
def EngineWholeSaid : Prop := engineWholeRow.holds Tryz.pinned (OpenSpec.ofChange engineWholeSpec)

/-- ITS FALSE NEIGHBOUR: 'it returns false'. Refute it at one input. -/
def engineWholeWrong : ChangeSpec := { name := "engineWhole", fn := fun _ => fun
  | [d1, d2, d3] => { results := [.lit (.bool false)], args := [d1, d2, d3] }
  | _ => none }
def EngineWholeWrongFalsely : Prop := engineWholeRow.holds Tryz.pinned (OpenSpec.ofChange engineWholeWrong)

/-- 'tompionlaw38.EngineAnew': WHATEVER THE INPUT: true; the input reads as it did. -/
def engineAnewSpec : ChangeSpec := { name := "engineAnew", fn := fun _ => fun
  | [d1, d2, d3] => { results := [.lit (.bool true)], args := [d1, d2, d3] }
  | _ => none }
def engineAnewRow : OpenClaim := { program := "ytpmkpckldnnigaagreat", sum := "1f9572e5d24d95a08c4b6b4f3c94d06d0cd958c2f37327a8ba78ca063cf15045", func := "tompion/tompionlaw38.EngineAnew", spec := "engineAnew", inPlace := ["sync/atomic.AddInt64"], unfollowed := true, recurses := true, apart := false }
def EngineAnewSaid : Prop := engineAnewRow.holds Tryz.pinned (OpenSpec.ofChange engineAnewSpec)

/-- ITS FALSE NEIGHBOUR: 'it returns false'. Refute it at one input. -/
def engineAnewWrong : ChangeSpec := { name := "engineAnew", fn := fun _ => fun
  | [d1, d2, d3] => { results := [.lit (.bool false)], args := [d1, d2, d3] }
  | _ => none }
def EngineAnewWrongFalsely : Prop := engineAnewRow.holds Tryz.pinned (OpenSpec.ofChange engineAnewWrong)

/- THE SECOND FORM. 'bulk': how many values and letters a reading holds, each counted each time it is reached (what is shared counts as often as it is met; a slice's spare places count too). A statement '..UptoSaid' is the law's where the arguments, and the package variables that the reading takes, are together of bulk at most 1048576: NARROWER than '..Said'. Prove '..Said' where nothing that the law and all that it calls make is longer than what came in: it says more and counts as full. Else prove '..UptoSaid'. A law counts once. -/
mutual
def uptoBulk {H : Type} : DataW H → Nat
  | .lit (.string bytes) => bytes.length + 1
  | .lit _ => 1
  | .nil => 1
  | .ptr d => uptoBulk d + 1
  | .slice elems spare => uptoBulkAll elems + uptoBulkAll spare + 1
  | .agg parts => uptoBulkAll parts + 1
  | .iface _ d => uptoBulk d + 1
  | .map entries => uptoBulkEntries entries + 1
  | .held _ => 1
def uptoBulkAll {H : Type} : List (DataW H) → Nat
  | [] => 0
  | d :: r => uptoBulk d + uptoBulkAll r
def uptoBulkEntries {H : Type} : List (Lit × DataW H) → Nat
  | [] => 0
  | x :: r => uptoBulkEntry x + uptoBulkEntries r
def uptoBulkEntry {H : Type} : Lit × DataW H → Nat
  | (.string bytes, d) => bytes.length + uptoBulk d + 1
  | (_, d) => uptoBulk d + 1
 end
def uptoSmall : (H : Type) → List (DataW H) → Bool := fun _ ds => decide (uptoBulkAll ds ≤ 1048576)
def OpenSpec.upto (s : _root_.Go.ChangeSpec) : _root_.Go.OpenSpec := { _root_.Go.OpenSpec.ofChange s with cond := some uptoSmall }

/-- 'tompionlaw37.KeepDoes', WHERE WHAT IT READS IS OF BULK AT MOST 1048576: true; the input reads as it did. -/
def keepDoesUptoRow : OpenClaim := { program := "ytpmkpckldnnigaagreat", sum := "1f9572e5d24d95a08c4b6b4f3c94d06d0cd958c2f37327a8ba78ca063cf15045", func := "tompion/tompionlaw37.KeepDoes", spec := "keepDoes", inPlace := ["sync/atomic.AddInt64"], unfollowed := true, recurses := true, apart := false, narrowed := true }
def KeepDoesUptoSaid : Prop := keepDoesUptoRow.holds Tryz.pinned (OpenSpec.upto keepDoesSpec)

/-- 'tompionlaw43.AuditChecks', WHERE WHAT IT READS IS OF BULK AT MOST 1048576: true; the input reads as it did. -/
def auditChecksUptoRow : OpenClaim := { program := "ytpmkpckldnnigaagreat", sum := "1f9572e5d24d95a08c4b6b4f3c94d06d0cd958c2f37327a8ba78ca063cf15045", func := "tompion/tompionlaw43.AuditChecks", spec := "auditChecks", inPlace := ["sync/atomic.AddInt64"], unfollowed := true, recurses := true, apart := false, narrowed := true }
def AuditChecksUptoSaid : Prop := auditChecksUptoRow.holds Tryz.pinned (OpenSpec.upto auditChecksSpec)

/-- 'tompionlaw38.EngineNone', WHERE WHAT IT READS IS OF BULK AT MOST 1048576: true; the input reads as it did. -/
def engineNoneUptoRow : OpenClaim := { program := "ytpmkpckldnnigaagreat", sum := "1f9572e5d24d95a08c4b6b4f3c94d06d0cd958c2f37327a8ba78ca063cf15045", func := "tompion/tompionlaw38.EngineNone", spec := "engineNone", inPlace := ["sync/atomic.AddInt64"], unfollowed := true, recurses := true, apart := false, narrowed := true }
def EngineNoneUptoSaid : Prop := engineNoneUptoRow.holds Tryz.pinned (OpenSpec.upto engineNoneSpec)

/-- 'tompionlaw38.EnginePieces', WHERE WHAT IT READS IS OF BULK AT MOST 1048576: true; the input reads as it did. -/
def enginePiecesUptoRow : OpenClaim := { program := "ytpmkpckldnnigaagreat", sum := "1f9572e5d24d95a08c4b6b4f3c94d06d0cd958c2f37327a8ba78ca063cf15045", func := "tompion/tompionlaw38.EnginePieces", spec := "enginePieces", inPlace := ["sync/atomic.AddInt64"], unfollowed := true, recurses := true, apart := false, narrowed := true }
def EnginePiecesUptoSaid : Prop := enginePiecesUptoRow.holds Tryz.pinned (OpenSpec.upto enginePiecesSpec)

/-- 'tompionlaw38.EngineWhole', WHERE WHAT IT READS IS OF BULK AT MOST 1048576: true; the input reads as it did. -/
def engineWholeUptoRow : OpenClaim := { program := "ytpmkpckldnnigaagreat", sum := "1f9572e5d24d95a08c4b6b4f3c94d06d0cd958c2f37327a8ba78ca063cf15045", func := "tompion/tompionlaw38.EngineWhole", spec := "engineWhole", inPlace := ["sync/atomic.AddInt64"], unfollowed := true, recurses := true, apart := false, narrowed := true }
def EngineWholeUptoSaid : Prop := engineWholeUptoRow.holds Tryz.pinned (OpenSpec.upto engineWholeSpec)

/-- 'tompionlaw38.EngineAnew', WHERE WHAT IT READS IS OF BULK AT MOST 1048576: true; the input reads as it did. -/
def engineAnewUptoRow : OpenClaim := { program := "ytpmkpckldnnigaagreat", sum := "1f9572e5d24d95a08c4b6b4f3c94d06d0cd958c2f37327a8ba78ca063cf15045", func := "tompion/tompionlaw38.EngineAnew", spec := "engineAnew", inPlace := ["sync/atomic.AddInt64"], unfollowed := true, recurses := true, apart := false, narrowed := true }
def EngineAnewUptoSaid : Prop := engineAnewUptoRow.holds Tryz.pinned (OpenSpec.upto engineAnewSpec)

end Rows
end Go.Proofs.YtpmkpckldnnigaaGreat
