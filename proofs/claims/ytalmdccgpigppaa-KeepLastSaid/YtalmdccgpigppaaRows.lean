/-
  No cell of these rows narrows 'for every input' (looked for: loops, veiled, ifaces, maps, wideKeys, modest, calm, conditions, laid).
  DERIVED. THE GIVEN ROWS OF THIS SEAT. 5 by the template 'for every input the law returns true; each argument reads behind the call as it read before'; 0 by the template 'total and deterministic' (their statements: YtalmdccgpigppaaTotals.lean).
  GIVEN WITH THE SEED: the statements are not yours to turn. If you find one false, say at which input.
  Laid BY PROGRAM, IN A SANDBOX (cutbox-rows.mjs): the forced cells as the released guide's own fill.sh prints them over the translation a2573017841a04d9… (all of the seat's roots in one cut). By AI agents, Wed Nov 11 2026. No macro, syntax, notation, axiom, sorry.
-/
import Derived.Test.YtalmdccgpigppaaChecked
import GoSem.Claim
import GoSem.ClaimJoined
import GoSem.ClaimMapViews
import Derived.JoinedTies
import Derived.KernelRfl
namespace Go.Proofs.Ytalmdccgpigppaa
/- THE CELL 'sum', in the pinned program and in every row, IS THE sha256 OF THE DUMP (.gsa) THAT YtalmdccgpigppaaProg.lean LOADS. Nothing in Lean hashes anything: it is a label: what it is worth is what the hold of that sum in a sandbox is worth. -/
noncomputable def Try.pinned : Pinned := { name := "ytalmdccgpigppaa", sum := "a2573017841a04d98069e4da8605e6685f9a0b94911342c4349fe6a7847d9cd3", checked := Try.checked }
namespace Rows
def none {H : Type} : Left H := { results := [], args := [] }

/-- 'tompionlaw10.SlotsWhole': WHATEVER THE INPUT: true; the input reads as it did. -/
def slotsWholeSpec : ChangeSpec := { name := "slotsWhole", fn := fun _ => fun
  | [d1, d2] => { results := [.lit (.bool true)], args := [d1, d2] }
  | _ => none }
def slotsWholeRow : OpenClaim := { program := "ytalmdccgpigppaa", sum := "a2573017841a04d98069e4da8605e6685f9a0b94911342c4349fe6a7847d9cd3", func := "tompion/tompionlaw10.SlotsWhole", spec := "slotsWhole", inPlace := ["sync/atomic.AddInt64"], unfollowed := true, recurses := true, apart := false }
def SlotsWholeSaid : Prop := slotsWholeRow.holds Try.pinned (OpenSpec.ofChange slotsWholeSpec)

/-- ITS FALSE NEIGHBOUR: 'it returns false'. Refute it at one input. -/
def slotsWholeWrong : ChangeSpec := { name := "slotsWhole", fn := fun _ => fun
  | [d1, d2] => { results := [.lit (.bool false)], args := [d1, d2] }
  | _ => none }
def SlotsWholeWrongFalsely : Prop := slotsWholeRow.holds Try.pinned (OpenSpec.ofChange slotsWholeWrong)

/-- 'tompionlaw45.StatBoth': WHATEVER THE INPUT: true; the input reads as it did. -/
def statBothSpec : ChangeSpec := { name := "statBoth", fn := fun _ => fun
  | [d1, d2, d3] => { results := [.lit (.bool true)], args := [d1, d2, d3] }
  | _ => none }
def statBothRow : OpenClaim := { program := "ytalmdccgpigppaa", sum := "a2573017841a04d98069e4da8605e6685f9a0b94911342c4349fe6a7847d9cd3", func := "tompion/tompionlaw45.StatBoth", spec := "statBoth", apart := false }
def StatBothSaid : Prop := statBothRow.holds Try.pinned (OpenSpec.ofChange statBothSpec)

/-- ITS FALSE NEIGHBOUR: 'it returns false'. Refute it at one input. -/
def statBothWrong : ChangeSpec := { name := "statBoth", fn := fun _ => fun
  | [d1, d2, d3] => { results := [.lit (.bool false)], args := [d1, d2, d3] }
  | _ => none }
def StatBothWrongFalsely : Prop := statBothRow.holds Try.pinned (OpenSpec.ofChange statBothWrong)

/-- 'tompionlaw35.FeedKeeps': WHATEVER THE INPUT: true; the input reads as it did. -/
def feedKeepsSpec : ChangeSpec := { name := "feedKeeps", fn := fun _ => fun
  | [d1, d2] => { results := [.lit (.bool true)], args := [d1, d2] }
  | _ => none }
def feedKeepsRow : OpenClaim := { program := "ytalmdccgpigppaa", sum := "a2573017841a04d98069e4da8605e6685f9a0b94911342c4349fe6a7847d9cd3", func := "tompion/tompionlaw35.FeedKeeps", spec := "feedKeeps", inPlace := ["sync/atomic.AddInt64"], unfollowed := true, recurses := true, apart := false }
def FeedKeepsSaid : Prop := feedKeepsRow.holds Try.pinned (OpenSpec.ofChange feedKeepsSpec)

/-- ITS FALSE NEIGHBOUR: 'it returns false'. Refute it at one input. -/
def feedKeepsWrong : ChangeSpec := { name := "feedKeeps", fn := fun _ => fun
  | [d1, d2] => { results := [.lit (.bool false)], args := [d1, d2] }
  | _ => none }
def FeedKeepsWrongFalsely : Prop := feedKeepsRow.holds Try.pinned (OpenSpec.ofChange feedKeepsWrong)

/-- 'tompionlaw36.SinkOnce': WHATEVER THE INPUT: true; the input reads as it did. -/
def sinkOnceSpec : ChangeSpec := { name := "sinkOnce", fn := fun _ => fun
  | [d1, d2] => { results := [.lit (.bool true)], args := [d1, d2] }
  | _ => none }
def sinkOnceRow : OpenClaim := { program := "ytalmdccgpigppaa", sum := "a2573017841a04d98069e4da8605e6685f9a0b94911342c4349fe6a7847d9cd3", func := "tompion/tompionlaw36.SinkOnce", spec := "sinkOnce", inPlace := ["sync/atomic.AddInt64"], unfollowed := true, recurses := true, apart := false }
def SinkOnceSaid : Prop := sinkOnceRow.holds Try.pinned (OpenSpec.ofChange sinkOnceSpec)

/-- ITS FALSE NEIGHBOUR: 'it returns false'. Refute it at one input. -/
def sinkOnceWrong : ChangeSpec := { name := "sinkOnce", fn := fun _ => fun
  | [d1, d2] => { results := [.lit (.bool false)], args := [d1, d2] }
  | _ => none }
def SinkOnceWrongFalsely : Prop := sinkOnceRow.holds Try.pinned (OpenSpec.ofChange sinkOnceWrong)

/-- 'tompionlaw37.KeepLast': WHATEVER THE INPUT: true; the input reads as it did. -/
def keepLastSpec : ChangeSpec := { name := "keepLast", fn := fun _ => fun
  | [d] => { results := [.lit (.bool true)], args := [d] }
  | _ => none }
def keepLastRow : OpenClaim := { program := "ytalmdccgpigppaa", sum := "a2573017841a04d98069e4da8605e6685f9a0b94911342c4349fe6a7847d9cd3", func := "tompion/tompionlaw37.KeepLast", spec := "keepLast", inPlace := ["sync/atomic.AddInt64"], unfollowed := true, recurses := true, apart := false }
def KeepLastSaid : Prop := keepLastRow.holds Try.pinned (OpenSpec.ofChange keepLastSpec)

/-- ITS FALSE NEIGHBOUR: 'it returns false'. Refute it at one input. -/
def keepLastWrong : ChangeSpec := { name := "keepLast", fn := fun _ => fun
  | [d] => { results := [.lit (.bool false)], args := [d] }
  | _ => none }
def KeepLastWrongFalsely : Prop := keepLastRow.holds Try.pinned (OpenSpec.ofChange keepLastWrong)

/- THE SECOND FORM. 'bulk': how many values and letters a reading holds, each counted each time it is reached (what is shared counts as often as it is met; a slice's spare places count too). A statement '..UptoSaid' is the law's where the arguments, and the package variables that the reading takes, are together of bulk at most 1048576: NARROWER than '..Said'. Prove '..Said' where nothing that the law and all that it calls make is longer than what came in: it says more and counts as full. Else prove '..UptoSaid'. A law counts once. -/
mutual
def uptoBulk {H : Type} : DataW H → Nat
  | .lit (.string bytes) => bytes.length + 1
  | .lit _ => 1
  | .nil => 1
  | .ptr d => uptoBulk d + 1
  | .slice elems spare => uptoBulkAll elems + uptoBulkAll spare + 1
  | .agg parts => uptoBulkAll parts + 1
  | .iface _ d => uptoBulk d + 1
  | .map entries => uptoBulkEntries entries + 1
  | .held _ => 1
def uptoBulkAll {H : Type} : List (DataW H) → Nat
  | [] => 0
  | d :: r => uptoBulk d + uptoBulkAll r
def uptoBulkEntries {H : Type} : List (Lit × DataW H) → Nat
  | [] => 0
  | x :: r => uptoBulkEntry x + uptoBulkEntries r
def uptoBulkEntry {H : Type} : Lit × DataW H → Nat
  | (.string bytes, d) => bytes.length + uptoBulk d + 1
  | (_, d) => uptoBulk d + 1
 end
def uptoSmall : (H : Type) → List (DataW H) → Bool := fun _ ds => decide (uptoBulkAll ds ≤ 1048576)
def OpenSpec.upto (s : _root_.Go.ChangeSpec) : _root_.Go.OpenSpec := { _root_.Go.OpenSpec.ofChange s with cond := some uptoSmall }

/-- 'tompionlaw10.SlotsWhole', WHERE WHAT IT READS IS OF BULK AT MOST 1048576: true; the input reads as it did. -/
def slotsWholeUptoRow : OpenClaim := { program := "ytalmdccgpigppaa", sum := "a2573017841a04d98069e4da8605e6685f9a0b94911342c4349fe6a7847d9cd3", func := "tompion/tompionlaw10.SlotsWhole", spec := "slotsWhole", inPlace := ["sync/atomic.AddInt64"], unfollowed := true, recurses := true, apart := false, narrowed := true }
def SlotsWholeUptoSaid : Prop := slotsWholeUptoRow.holds Try.pinned (OpenSpec.upto slotsWholeSpec)

/-- 'tompionlaw45.StatBoth', WHERE WHAT IT READS IS OF BULK AT MOST 1048576: true; the input reads as it did. -/
def statBothUptoRow : OpenClaim := { program := "ytalmdccgpigppaa", sum := "a2573017841a04d98069e4da8605e6685f9a0b94911342c4349fe6a7847d9cd3", func := "tompion/tompionlaw45.StatBoth", spec := "statBoth", apart := false, narrowed := true }
def StatBothUptoSaid : Prop := statBothUptoRow.holds Try.pinned (OpenSpec.upto statBothSpec)

/-- 'tompionlaw35.FeedKeeps', WHERE WHAT IT READS IS OF BULK AT MOST 1048576: true; the input reads as it did. -/
def feedKeepsUptoRow : OpenClaim := { program := "ytalmdccgpigppaa", sum := "a2573017841a04d98069e4da8605e6685f9a0b94911342c4349fe6a7847d9cd3", func := "tompion/tompionlaw35.FeedKeeps", spec := "feedKeeps", inPlace := ["sync/atomic.AddInt64"], unfollowed := true, recurses := true, apart := false, narrowed := true }
def FeedKeepsUptoSaid : Prop := feedKeepsUptoRow.holds Try.pinned (OpenSpec.upto feedKeepsSpec)

/-- 'tompionlaw36.SinkOnce', WHERE WHAT IT READS IS OF BULK AT MOST 1048576: true; the input reads as it did. -/
def sinkOnceUptoRow : OpenClaim := { program := "ytalmdccgpigppaa", sum := "a2573017841a04d98069e4da8605e6685f9a0b94911342c4349fe6a7847d9cd3", func := "tompion/tompionlaw36.SinkOnce", spec := "sinkOnce", inPlace := ["sync/atomic.AddInt64"], unfollowed := true, recurses := true, apart := false, narrowed := true }
def SinkOnceUptoSaid : Prop := sinkOnceUptoRow.holds Try.pinned (OpenSpec.upto sinkOnceSpec)

/-- 'tompionlaw37.KeepLast', WHERE WHAT IT READS IS OF BULK AT MOST 1048576: true; the input reads as it did. -/
def keepLastUptoRow : OpenClaim := { program := "ytalmdccgpigppaa", sum := "a2573017841a04d98069e4da8605e6685f9a0b94911342c4349fe6a7847d9cd3", func := "tompion/tompionlaw37.KeepLast", spec := "keepLast", inPlace := ["sync/atomic.AddInt64"], unfollowed := true, recurses := true, apart := false, narrowed := true }
def KeepLastUptoSaid : Prop := keepLastUptoRow.holds Try.pinned (OpenSpec.upto keepLastSpec)

end Rows
end Go.Proofs.Ytalmdccgpigppaa
