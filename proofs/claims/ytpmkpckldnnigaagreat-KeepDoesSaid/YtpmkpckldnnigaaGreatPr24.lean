/- Parts: PlainKeep. -/
import Derived.Test.YtpmkpckldnnigaaGreatPr11
import Derived.Test.YtpmkpckldnnigaaGreatPr22
import Derived.Test.YtpmkpckldnnigaaGreatPr23
set_option linter.unusedVariables false
set_option linter.unusedSimpArgs false
set_option maxRecDepth 100000
set_option maxHeartbeats 40000000
namespace Go.Proofs.YtpmkpckldnnigaaGreat
open Go.RowKit
structure KpV where
  s : SlV3
  last : SV
  has : Bool
def qu3 : KpV := ⟨⟨2, 0, []⟩, qn8, false⟩
def qt3 (s : SlV3) : List UInt8 × Int × Bool := if s.now = 2 then ([], 0, false) else (s.load, s.number, true)
def qm2 (D : qa3) (fl ml fr mr : Nat) (p : PV) (hash : Int) : qa3 × KpV × Int :=
  if qj8 p = false then (D, qu3, 40)
  else if (qd3 D fl ml fr mr).2.2 ≠ 0 then ((qd3 D fl ml fr mr).1, qu3, (qd3 D fl ml fr mr).2.2)
  else if (qt3 (qd3 D fl ml fr mr).2.1).2.2 = false then ((qd3 D fl ml fr mr).1, ⟨(qd3 D fl ml fr mr).2.1, qn8, false⟩, 0)
  else if (qn0 p (qt3 (qd3 D fl ml fr mr).2.1).1).2 ≠ 0 then ((qd3 D fl ml fr mr).1, qu3, 53)
  else if (qn0 p (qt3 (qd3 D fl ml fr mr).2.1).1).1.hash ≠ hash then ((qd3 D fl ml fr mr).1, qu3, 42)
  else ((qd3 D fl ml fr mr).1, ⟨(qd3 D fl ml fr mr).2.1, (qn0 p (qt3 (qd3 D fl ml fr mr).2.1).1).1, true⟩, 0)
def qm1 (D : qa3) (fl ml fr mr : Nat) (p : PV) (hash : Int) (k : KpV) (tick : Int) (cells : List Int) : qa3 × KpV × Int :=
  if ql1 p ⟨tick, hash, cells⟩ = false then (D, k, 41)
  else if (qf5 D fl ml fr mr k.s (stBs ⟨tick, hash, cells⟩)).2.2 ≠ 0 then ((qf5 D fl ml fr mr k.s (stBs ⟨tick, hash, cells⟩)).1, { k with s := (qf5 D fl ml fr mr k.s (stBs ⟨tick, hash, cells⟩)).2.1 }, (qf5 D fl ml fr mr k.s (stBs ⟨tick, hash, cells⟩)).2.2)
  else ((qf5 D fl ml fr mr k.s (stBs ⟨tick, hash, cells⟩)).1, ⟨(qf5 D fl ml fr mr k.s (stBs ⟨tick, hash, cells⟩)).2.1, ⟨tick, hash, cells⟩, true⟩, 0)
structure KInv (p : PV) (hash : Int) (D : qa3) (s : SlV3) (n : Nat) (last : Int) (is : List Int) : Prop where
  sl : SInv D s n
  none_ : n = 0 → last = -1 ∧ is = []
  some_ : 0 < n → s.load = stBs ⟨last, hash, is⟩ ∧ ql1 p ⟨last, hash, is⟩ = true ∧ SnapAll ⟨last, hash, is⟩
section
variable {p : PV} {hash : Int} {D : qa3} {s : SlV3} {n : Nat} {last : Int} {is : List Int}
end
end Go.Proofs.YtpmkpckldnnigaaGreat
