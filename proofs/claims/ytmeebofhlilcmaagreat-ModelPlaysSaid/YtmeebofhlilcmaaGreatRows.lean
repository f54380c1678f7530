/-
  No cell of these rows narrows 'for every input' (looked for: loops, veiled, ifaces, maps, wideKeys, modest, calm, conditions, laid).
  DERIVED. THE GIVEN ROWS OF THIS SEAT. 11 by the template 'for every input the law returns true; each argument reads behind the call as it read before'; 0 by the template 'total and deterministic' (their statements: YtmeebofhlilcmaaGreatTotals.lean).
  GIVEN WITH THE SEED: the statements are not yours to turn. If you find one false, say at which input.
  Laid BY PROGRAM, IN A SANDBOX (cutbox-rows.mjs): the forced cells as the released guide's own fill.sh prints them over the translation 6acbd781bf27a707… (all of the seat's roots in one cut). By AI agents, Wed Nov 11 2026. No macro, syntax, notation, axiom, sorry.
-/
import Derived.Test.YtmeebofhlilcmaaGreatChecked
import GoSem.Claim
import GoSem.ClaimJoined
import GoSem.ClaimMapViews
import Derived.JoinedTies
import Derived.KernelRfl
namespace Go.Proofs.YtmeebofhlilcmaaGreat
/- THE CELL 'sum', in the pinned program and in every row, IS THE sha256 OF THE DUMP (.gsa) THAT YtmeebofhlilcmaaGreatProg.lean LOADS. Nothing in Lean hashes anything: it is a label: what it is worth is what the hold of that sum in a sandbox is worth. -/
noncomputable def Tryz.pinned : Pinned := { name := "ytmeebofhlilcmaagreat", sum := "6acbd781bf27a70735848871a1e6b3665e68ec0a6b171aac3a1eba107a4c9751", checked := Tryz.checked }
namespace Rows
def none {H : Type} : Left H := { results := [], args := [] }

/-- 'tompionlaw43.AuditChecks': WHATEVER THE INPUT: true; the input reads as it did. -/
def auditChecksSpec : ChangeSpec := { name := "auditChecks", fn := fun _ => fun
  | [d1, d2, d3] => { results := [.lit (.bool true)], args := [d1, d2, d3] }
  | _ => none }
def auditChecksRow : OpenClaim := { program := "ytmeebofhlilcmaagreat", sum := "6acbd781bf27a70735848871a1e6b3665e68ec0a6b171aac3a1eba107a4c9751", func := "tompion/tompionlaw43.AuditChecks", spec := "auditChecks", inPlace := ["sync/atomic.AddInt64"], unfollowed := true, recurses := true, apart := false }
def AuditChecksSaid : Prop := auditChecksRow.holds Tryz.pinned (OpenSpec.ofChange auditChecksSpec)

/-- ITS FALSE NEIGHBOUR: 'it returns false'. Refute it at one input. -/
def auditChecksWrong : ChangeSpec := { name := "auditChecks", fn := fun _ => fun
  | [d1, d2, d3] => { results := [.lit (.bool false)], args := [d1, d2, d3] }
  | _ => none }
def AuditChecksWrongFalsely : Prop := auditChecksRow.holds Tryz.pinned (OpenSpec.ofChange auditChecksWrong)

/-- 'tompionlaw38.EngineNone': WHATEVER THE INPUT: true; the input reads as it did. -/
def engineNoneSpec : ChangeSpec := { name := "engineNone", fn := fun _ => fun
  | [d1, d2] => { results := [.lit (.bool true)], args := [d1, d2] }
  | _ => none }
def engineNoneRow : OpenClaim := { program := "ytmeebofhlilcmaagreat", sum := "6acbd781bf27a70735848871a1e6b3665e68ec0a6b171aac3a1eba107a4c9751", func := "tompion/tompionlaw38.EngineNone", spec := "engineNone", inPlace := ["sync/atomic.AddInt64"], unfollowed := true, recurses := true, apart := false }
def EngineNoneSaid : Prop := engineNoneRow.holds Tryz.pinned (OpenSpec.ofChange engineNoneSpec)

/-- ITS FALSE NEIGHBOUR: 'it returns false'. Refute it at one input. -/
def engineNoneWrong : ChangeSpec := { name := "engineNone", fn := fun _ => fun
  | [d1, d2] => { results := [.lit (.bool false)], args := [d1, d2] }
  | _ => none }
def EngineNoneWrongFalsely : Prop := engineNoneRow.holds Tryz.pinned (OpenSpec.ofChange engineNoneWrong)

/-- 'tompionlaw38.EnginePieces': WHATEVER THE INPUT: true; the input reads as it did. -/
def enginePiecesSpec : ChangeSpec := { name := "enginePieces", fn := fun _ => fun
  | [d1, d2, d3] => { results := [.lit (.bool true)], args := [d1, d2, d3] }
  | _ => none }
def enginePiecesRow : OpenClaim := { program := "ytmeebofhlilcmaagreat", sum := "6acbd781bf27a70735848871a1e6b3665e68ec0a6b171aac3a1eba107a4c9751", func := "tompion/tompionlaw38.EnginePieces", spec := "enginePieces", inPlace := ["sync/atomic.AddInt64"], unfollowed := true, recurses := true, apart := false }
def EnginePiecesSaid : Prop := enginePiecesRow.holds Tryz.pinned (OpenSpec.ofChange enginePiecesSpec)

/-- ITS FALSE NEIGHBOUR: 'it returns false'. Refute it at one input. -/
def enginePiecesWrong : ChangeSpec := { name := "enginePieces", fn := fun _ => fun
  | [d1, d2, d3] => { results := [.lit (.bool false)], args := [d1, d2, d3] }
  | _ => none }
def EnginePiecesWrongFalsely : Prop := enginePiecesRow.holds Tryz.pinned (OpenSpec.ofChange enginePiecesWrong)

/-- 'tompionlaw38.EngineWhole': WHATEVER THE INPUT: true; the input reads as it did. -/
def engineWholeSpec : ChangeSpec := { name := "engineWhole", fn := fun _ => fun
  | [d1, d2, d3] => { results := [.lit (.bool true)], args := [d1, d2, d3] }
  | _ => none }
def engineWholeRow : OpenClaim := { program := "ytmeebofhlilcmaagreat", sum := "6acbd781bf27a70735848871a1e6b3665e68ec0a6b171aac3a1eba107a4c9751", func := "tompion/tompionlaw38.EngineWhole", spec := "engineWhole", inPlace := ["sync/atomic.AddInt64"], unfollowed := true, recurses := true, apart := false }
def EngineWholeSaid : Prop := engineWholeRow.holds Tryz.pinned (OpenSpec.ofChange engineWholeSpec)

/-- ITS FALSE NEIGHBOUR: 'it returns false'. Refute it at one input. -/
def engineWholeWrong : ChangeSpec := { name := "engineWhole", fn := fun _ => fun
  | [d1, d2, d3] => { results := [.lit (.bool false)], args := [d1, d2, d3] }
  | _ => none }
def EngineWholeWrongFalsely : Prop := engineWholeRow.holds Tryz.pinned (OpenSpec.ofChange engineWholeWrong)

/-- 'tompionlaw38.EngineAnew': WHATEVER THE INPUT: true; the input reads as it did. -/
def engineAnewSpec : ChangeSpec := { name := "engineAnew", fn := fun _ => fun
  | [d1, d2, d3] => { results := [.lit (.bool true)], args := [d1, d2, d3] }
  | _ => none }
def engineAnewRow : OpenClaim := { program := "ytmeebofhlilcmaagreat", sum := "6acbd781bf27a70735848871a1e6b3665e68ec0a6b171aac3a1eba107a4c9751", func := "tompion/tompionlaw38.EngineAnew", spec := "engineAnew", inPlace := ["sync/atomic.AddInt64"], unfollowed := true, recurses := true, apart := false }
def EngineAnewSaid : Prop := engineAnewRow.holds Tryz.pinned (OpenSpec.ofChange engineAnewSpec)

/-- ITS FALSE NEIGHBOUR: 'it returns false'. Refute it at one input. -/
def engineAnewWrong : ChangeSpec := { name := "engineAnew", fn := fun _ => fun
  | [d1, d2, d3] => { results := [.lit (.bool false)], args := [d1, d2, d3] }
  | _ => none }
def EngineAnewWrongFalsely : Prop := engineAnewRow.holds Tryz.pinned (OpenSpec.ofChange engineAnewWrong)

/-- 'tompionlaw40.PlayWrong': WHATEVER THE INPUT: true; the input reads as it did. -/
def playWrongSpec : ChangeSpec := { name := "playWrong", fn := fun _ => fun
  | [d] => { results := [.lit (.bool true)], args := [d] }
  | _ => none }
def playWrongRow : OpenClaim := { program := "ytmeebofhlilcmaagreat", sum := "6acbd781bf27a70735848871a1e6b3665e68ec0a6b171aac3a1eba107a4c9751", func := "tompion/tompionlaw40.PlayWrong", spec := "playWrong", inPlace := ["sync/atomic.AddInt64"], unfollowed := true, recurses := true, apart := false }
def PlayWrongSaid : Prop := playWrongRow.holds Tryz.pinned (OpenSpec.ofChange playWrongSpec)

/-- ITS FALSE NEIGHBOUR: 'it returns false'. Refute it at one input. -/
def playWrongWrong : ChangeSpec := { name := "playWrong", fn := fun _ => fun
  | [d] => { results := [.lit (.bool false)], args := [d] }
  | _ => none }
def PlayWrongWrongFalsely : Prop := playWrongRow.holds Tryz.pinned (OpenSpec.ofChange playWrongWrong)

/-- 'tompionlaw40.PlayAgain': WHATEVER THE INPUT: true; the input reads as it did. -/
def playAgainSpec : ChangeSpec := { name := "playAgain", fn := fun _ => fun
  | [d1, d2, d3] => { results := [.lit (.bool true)], args := [d1, d2, d3] }
  | _ => none }
def playAgainRow : OpenClaim := { program := "ytmeebofhlilcmaagreat", sum := "6acbd781bf27a70735848871a1e6b3665e68ec0a6b171aac3a1eba107a4c9751", func := "tompion/tompionlaw40.PlayAgain", spec := "playAgain", inPlace := ["sync/atomic.AddInt64"], unfollowed := true, recurses := true, apart := false }
def PlayAgainSaid : Prop := playAgainRow.holds Tryz.pinned (OpenSpec.ofChange playAgainSpec)

/-- ITS FALSE NEIGHBOUR: 'it returns false'. Refute it at one input. -/
def playAgainWrong : ChangeSpec := { name := "playAgain", fn := fun _ => fun
  | [d1, d2, d3] => { results := [.lit (.bool false)], args := [d1, d2, d3] }
  | _ => none }
def PlayAgainWrongFalsely : Prop := playAgainRow.holds Tryz.pinned (OpenSpec.ofChange playAgainWrong)

/-- 'tompionlaw45.StatPlays': WHATEVER THE INPUT: true; the input reads as it did. -/
def statPlaysSpec : ChangeSpec := { name := "statPlays", fn := fun _ => fun
  | [d1, d2, d3] => { results := [.lit (.bool true)], args := [d1, d2, d3] }
  | _ => none }
def statPlaysRow : OpenClaim := { program := "ytmeebofhlilcmaagreat", sum := "6acbd781bf27a70735848871a1e6b3665e68ec0a6b171aac3a1eba107a4c9751", func := "tompion/tompionlaw45.StatPlays", spec := "statPlays", inPlace := ["sync/atomic.AddInt64"], unfollowed := true, recurses := true, apart := false }
def StatPlaysSaid : Prop := statPlaysRow.holds Tryz.pinned (OpenSpec.ofChange statPlaysSpec)

/-- ITS FALSE NEIGHBOUR: 'it returns false'. Refute it at one input. -/
def statPlaysWrong : ChangeSpec := { name := "statPlays", fn := fun _ => fun
  | [d1, d2, d3] => { results := [.lit (.bool false)], args := [d1, d2, d3] }
  | _ => none }
def StatPlaysWrongFalsely : Prop := statPlaysRow.holds Tryz.pinned (OpenSpec.ofChange statPlaysWrong)

/-- 'tompionlaw43.AuditPlays': WHATEVER THE INPUT: true; the input reads as it did. -/
def auditPlaysSpec : ChangeSpec := { name := "auditPlays", fn := fun _ => fun
  | [d1, d2, d3] => { results := [.lit (.bool true)], args := [d1, d2, d3] }
  | _ => none }
def auditPlaysRow : OpenClaim := { program := "ytmeebofhlilcmaagreat", sum := "6acbd781bf27a70735848871a1e6b3665e68ec0a6b171aac3a1eba107a4c9751", func := "tompion/tompionlaw43.AuditPlays", spec := "auditPlays", inPlace := ["sync/atomic.AddInt64"], unfollowed := true, recurses := true, apart := false }
def AuditPlaysSaid : Prop := auditPlaysRow.holds Tryz.pinned (OpenSpec.ofChange auditPlaysSpec)

/-- ITS FALSE NEIGHBOUR: 'it returns false'. Refute it at one input. -/
def auditPlaysWrong : ChangeSpec := { name := "auditPlays", fn := fun _ => fun
  | [d1, d2, d3] => { results := [.lit (.bool false)], args := [d1, d2, d3] }
  | _ => none }
def AuditPlaysWrongFalsely : Prop := auditPlaysRow.holds Tryz.pinned (OpenSpec.ofChange auditPlaysWrong)

/-- 'tompionlaw41.ModelPlays': WHATEVER THE INPUT: true; the input reads as it did. -/
def modelPlaysSpec : ChangeSpec := { name := "modelPlays", fn := fun _ => fun
  | [d1, d2, d3] => { results := [.lit (.bool true)], args := [d1, d2, d3] }
  | _ => none }
def modelPlaysRow : OpenClaim := { program := "ytmeebofhlilcmaagreat", sum := "6acbd781bf27a70735848871a1e6b3665e68ec0a6b171aac3a1eba107a4c9751", func := "tompion/tompionlaw41.ModelPlays", spec := "modelPlays", inPlace := ["sync/atomic.AddInt64"], unfollowed := true, recurses := true, apart := false }
def ModelPlaysSaid : Prop := modelPlaysRow.holds Tryz.pinned (OpenSpec.ofChange modelPlaysSpec)

/-- ITS FALSE NEIGHBOUR: 'it returns false'. Refute it at one input. -/
def modelPlaysWrong : ChangeSpec := { name := "modelPlays", fn := fun _ => fun
  | [d1, d2, d3] => { results := [.lit (.bool false)], args := [d1, d2, d3] }
  | _ => none }
def ModelPlaysWrongFalsely : Prop := modelPlaysRow.holds Tryz.pinned (OpenSpec.ofChange modelPlaysWrong)

/-- 'tompionlaw44.LotPlays': WHATEVER THE INPUT: true; the input reads as it did. -/
def lotPlaysSpec : ChangeSpec := { name := "lotPlays", fn := fun _ => fun
  | [d1, d2, d3] => { results := [.lit (.bool true)], args := [d1, d2, d3] }
  | _ => none }
def lotPlaysRow : OpenClaim := { program := "ytmeebofhlilcmaagreat", sum := "6acbd781bf27a70735848871a1e6b3665e68ec0a6b171aac3a1eba107a4c9751", func := "tompion/tompionlaw44.LotPlays", spec := "lotPlays", inPlace := ["sync/atomic.AddInt64"], unfollowed := true, recurses := true, apart := false }
def LotPlaysSaid : Prop := lotPlaysRow.holds Tryz.pinned (OpenSpec.ofChange lotPlaysSpec)

/-- ITS FALSE NEIGHBOUR: 'it returns false'. Refute it at one input. -/
def lotPlaysWrong : ChangeSpec := { name := "lotPlays", fn := fun _ => fun
  | [d1, d2, d3] => { results := [.lit (.bool false)], args := [d1, d2, d3] }
  | _ => none }
def LotPlaysWrongFalsely : Prop := lotPlaysRow.holds Tryz.pinned (OpenSpec.ofChange lotPlaysWrong)

/- THE SECOND FORM. 'bulk': how many values and letters a reading holds, each counted each time it is reached (what is shared counts as often as it is met; a slice's spare places count too). A statement '..UptoSaid' is the law's where the arguments, and the package variables that the reading takes, are together of bulk at most 1048576: NARROWER than '..Said'. Prove '..Said' where nothing that the law and all that it calls make is longer than what came in: it says more and counts as full. Else prove '..UptoSaid'. A law counts once. -/
mutual
def uptoBulk {H : Type} : DataW H → Nat
  | .lit (.string bytes) => bytes.length + 1
  | .lit _ => 1
  | .nil => 1
  | .ptr d => uptoBulk d + 1
  | .slice elems spare => uptoBulkAll elems + uptoBulkAll spare + 1
  | .agg parts => uptoBulkAll parts + 1
  | .iface _ d => uptoBulk d + 1
  | .map entries => uptoBulkEntries entries + 1
  | .held _ => 1
def uptoBulkAll {H : Type} : List (DataW H) → Nat
  | [] => 0
  | d :: r => uptoBulk d + uptoBulkAll r
def uptoBulkEntries {H : Type} : List (Lit × DataW H) → Nat
  | [] => 0
  | x :: r => uptoBulkEntry x + uptoBulkEntries r
def uptoBulkEntry {H : Type} : Lit × DataW H → Nat
  | (.string bytes, d) => bytes.length + uptoBulk d + 1
  | (_, d) => uptoBulk d + 1
 end
def uptoSmall : (H : Type) → List (DataW H) → Bool := fun _ ds => decide (uptoBulkAll ds ≤ 1048576)
def OpenSpec.upto (s : _root_.Go.ChangeSpec) : _root_.Go.OpenSpec := { _root_.Go.OpenSpec.ofChange s with cond := some uptoSmall }

/-- 'tompionlaw43.AuditChecks', WHERE WHAT IT READS IS OF BULK AT MOST 1048576: true; the input reads as it did. -/
def auditChecksUptoRow : OpenClaim := { program := "ytmeebofhlilcmaagreat", sum := "6acbd781bf27a70735848871a1e6b3665e68ec0a6b171aac3a1eba107a4c9751", func := "tompion/tompionlaw43.AuditChecks", spec := "auditChecks", inPlace := ["sync/atomic.AddInt64"], unfollowed := true, recurses := true, apart := false, narrowed := true }
def AuditChecksUptoSaid : Prop := auditChecksUptoRow.holds Tryz.pinned (OpenSpec.upto auditChecksSpec)

/-- 'tompionlaw38.EngineNone', WHERE WHAT IT READS IS OF BULK AT MOST 1048576: true; the input reads as it did. -/
def engineNoneUptoRow : OpenClaim := { program := "ytmeebofhlilcmaagreat", sum := "6acbd781bf27a70735848871a1e6b3665e68ec0a6b171aac3a1eba107a4c9751", func := "tompion/tompionlaw38.EngineNone", spec := "engineNone", inPlace := ["sync/atomic.AddInt64"], unfollowed := true, recurses := true, apart := false, narrowed := true }
def EngineNoneUptoSaid : Prop := engineNoneUptoRow.holds Tryz.pinned (OpenSpec.upto engineNoneSpec)

/-- 'tompionlaw38.EnginePieces', WHERE WHAT IT READS IS OF BULK AT MOST 1048576: true; the input reads as it did. -/
def enginePiecesUptoRow : OpenClaim := { program := "ytmeebofhlilcmaagreat", sum := "6acbd781bf27a70735848871a1e6b3665e68ec0a6b171aac3a1eba107a4c9751", func := "tompion/tompionlaw38.EnginePieces", spec := "enginePieces", inPlace := ["sync/atomic.AddInt64"], unfollowed := true, recurses := true, apart := false, narrowed := true }
def EnginePiecesUptoSaid : Prop := enginePiecesUptoRow.holds Tryz.pinned (OpenSpec.upto enginePiecesSpec)

/-- 'tompionlaw38.EngineWhole', WHERE WHAT IT READS IS OF BULK AT MOST 1048576: true; the input reads as it did. -/
def engineWholeUptoRow : OpenClaim := { program := "ytmeebofhlilcmaagreat", sum := "6acbd781bf27a70735848871a1e6b3665e68ec0a6b171aac3a1eba107a4c9751", func := "tompion/tompionlaw38.EngineWhole", spec := "engineWhole", inPlace := ["sync/atomic.AddInt64"], unfollowed := true, recurses := true, apart := false, narrowed := true }
def EngineWholeUptoSaid : Prop := engineWholeUptoRow.holds Tryz.pinned (OpenSpec.upto engineWholeSpec)

/-- 'tompionlaw38.EngineAnew', WHERE WHAT IT READS IS OF BULK AT MOST 1048576: true; the input reads as it did. -/
def engineAnewUptoRow : OpenClaim := { program := "ytmeebofhlilcmaagreat", sum := "6acbd781bf27a70735848871a1e6b3665e68ec0a6b171aac3a1eba107a4c9751", func := "tompion/tompionlaw38.EngineAnew", spec := "engineAnew", inPlace := ["sync/atomic.AddInt64"], unfollowed := true, recurses := true, apart := false, narrowed := true }
def EngineAnewUptoSaid : Prop := engineAnewUptoRow.holds Tryz.pinned (OpenSpec.upto engineAnewSpec)

/-- 'tompionlaw40.PlayWrong', WHERE WHAT IT READS IS OF BULK AT MOST 1048576: true; the input reads as it did. -/
def playWrongUptoRow : OpenClaim := { program := "ytmeebofhlilcmaagreat", sum := "6acbd781bf27a70735848871a1e6b3665e68ec0a6b171aac3a1eba107a4c9751", func := "tompion/tompionlaw40.PlayWrong", spec := "playWrong", inPlace := ["sync/atomic.AddInt64"], unfollowed := true, recurses := true, apart := false, narrowed := true }
def PlayWrongUptoSaid : Prop := playWrongUptoRow.holds Tryz.pinned (OpenSpec.upto playWrongSpec)

/-- 'tompionlaw40.PlayAgain', WHERE WHAT IT READS IS OF BULK AT MOST 1048576: true; the input reads as it did. -/
def playAgainUptoRow : OpenClaim := { program := "ytmeebofhlilcmaagreat", sum := "6acbd781bf27a70735848871a1e6b3665e68ec0a6b171aac3a1eba107a4c9751", func := "tompion/tompionlaw40.PlayAgain", spec := "playAgain", inPlace := ["sync/atomic.AddInt64"], unfollowed := true, recurses := true, apart := false, narrowed := true }
def PlayAgainUptoSaid : Prop := playAgainUptoRow.holds Tryz.pinned (OpenSpec.upto playAgainSpec)

/-- 'tompionlaw45.StatPlays', WHERE WHAT IT READS IS OF BULK AT MOST 1048576: true; the input reads as it did. -/
def statPlaysUptoRow : OpenClaim := { program := "ytmeebofhlilcmaagreat", sum := "6acbd781bf27a70735848871a1e6b3665e68ec0a6b171aac3a1eba107a4c9751", func := "tompion/tompionlaw45.StatPlays", spec := "statPlays", inPlace := ["sync/atomic.AddInt64"], unfollowed := true, recurses := true, apart := false, narrowed := true }
def StatPlaysUptoSaid : Prop := statPlaysUptoRow.holds Tryz.pinned (OpenSpec.upto statPlaysSpec)

/-- 'tompionlaw43.AuditPlays', WHERE WHAT IT READS IS OF BULK AT MOST 1048576: true; the input reads as it did. -/
def auditPlaysUptoRow : OpenClaim := { program := "ytmeebofhlilcmaagreat", sum := "6acbd781bf27a70735848871a1e6b3665e68ec0a6b171aac3a1eba107a4c9751", func := "tompion/tompionlaw43.AuditPlays", spec := "auditPlays", inPlace := ["sync/atomic.AddInt64"], unfollowed := true, recurses := true, apart := false, narrowed := true }
def AuditPlaysUptoSaid : Prop := auditPlaysUptoRow.holds Tryz.pinned (OpenSpec.upto auditPlaysSpec)

/-- 'tompionlaw41.ModelPlays', WHERE WHAT IT READS IS OF BULK AT MOST 1048576: true; the input reads as it did. -/
def modelPlaysUptoRow : OpenClaim := { program := "ytmeebofhlilcmaagreat", sum := "6acbd781bf27a70735848871a1e6b3665e68ec0a6b171aac3a1eba107a4c9751", func := "tompion/tompionlaw41.ModelPlays", spec := "modelPlays", inPlace := ["sync/atomic.AddInt64"], unfollowed := true, recurses := true, apart := false, narrowed := true }
def ModelPlaysUptoSaid : Prop := modelPlaysUptoRow.holds Tryz.pinned (OpenSpec.upto modelPlaysSpec)

/-- 'tompionlaw44.LotPlays', WHERE WHAT IT READS IS OF BULK AT MOST 1048576: true; the input reads as it did. -/
def lotPlaysUptoRow : OpenClaim := { program := "ytmeebofhlilcmaagreat", sum := "6acbd781bf27a70735848871a1e6b3665e68ec0a6b171aac3a1eba107a4c9751", func := "tompion/tompionlaw44.LotPlays", spec := "lotPlays", inPlace := ["sync/atomic.AddInt64"], unfollowed := true, recurses := true, apart := false, narrowed := true }
def LotPlaysUptoSaid : Prop := lotPlaysUptoRow.holds Tryz.pinned (OpenSpec.upto lotPlaysSpec)

end Rows
end Go.Proofs.YtmeebofhlilcmaaGreat
