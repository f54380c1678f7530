/- Parts: CodeA, CodeB, Region, RowA, CodeC, CodeD, Ints, EqInts, CodeE, StateA. -/
import Derived.Test.YtpmkpckldnnigaaGreatPr03
import Derived.Test.YtpmkpckldnnigaaGreatPr00
import Derived.StillTail
import Derived.BigQuiet
import Derived.Test.YtpmkpckldnnigaaGreatPr01
import Derived.Deep.QuietTactic
namespace Go.Proofs.YtpmkpckldnnigaaGreat
open Go.RowKit

end Go.Proofs.YtpmkpckldnnigaaGreat
namespace Go.Proofs.YtpmkpckldnnigaaGreat
open Go.RowKit

end Go.Proofs.YtpmkpckldnnigaaGreat
namespace Go.Proofs.YtpmkpckldnnigaaGreat
open Go.RowKit

section
variable {P : Program} {ops : Array Oper} {w : World}
end
end Go.Proofs.YtpmkpckldnnigaaGreat
namespace Go.Proofs.YtpmkpckldnnigaaGreat
open Go.RowKit

end Go.Proofs.YtpmkpckldnnigaaGreat
namespace Go.Proofs.YtpmkpckldnnigaaGreat
open Go.RowKit

end Go.Proofs.YtpmkpckldnnigaaGreat
namespace Go.Proofs.YtpmkpckldnnigaaGreat
open Go.RowKit

end Go.Proofs.YtpmkpckldnnigaaGreat
namespace Go.Proofs.YtpmkpckldnnigaaGreat
open Go.RowKit

end Go.Proofs.YtpmkpckldnnigaaGreat
namespace Go.Proofs.YtpmkpckldnnigaaGreat
open Go.RowKit

end Go.Proofs.YtpmkpckldnnigaaGreat
namespace Go.Proofs.YtpmkpckldnnigaaGreat
open Go.RowKit

end Go.Proofs.YtpmkpckldnnigaaGreat
namespace Go.Proofs.YtpmkpckldnnigaaGreat
open Go.RowKit

structure SV where
  tick : Int
  hash : Int
  cells : List Int
def stFits (p : PV) (s : SV) : Bool := mayB p && ((decide (0 ≤ s.tick) && decide (0 ≤ s.hash)) && (decide (s.cells.length = p.cells.length) && allK p.cells.length (fun i => okAt (cellAt p.cells i).1 (intAt s.cells i))))
theorem stFits_true {p : PV} {s : SV} : stFits p s = true ↔ mayB p = true ∧ 0 ≤ s.tick ∧ 0 ≤ s.hash ∧ s.cells.length = p.cells.length ∧ ∀ i, i < p.cells.length → okAt (cellAt p.cells i).1 (intAt s.cells i) = true := by
  unfold stFits; simp only [Bool.and_eq_true, allK_true, decide_eq_true_eq]
  constructor
  · rintro ⟨h1, ⟨h2, h3⟩, h4, h5⟩; exact ⟨h1, h2, h3, h4, h5⟩
  · rintro ⟨h1, h2, h3, h4, h5⟩; exact ⟨h1, ⟨h2, h3⟩, h4, h5⟩

end Go.Proofs.YtpmkpckldnnigaaGreat
