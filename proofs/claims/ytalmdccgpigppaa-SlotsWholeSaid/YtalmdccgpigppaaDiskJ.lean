/- The disk's law: the chapter's example. -/
import Derived.Test.YtalmdccgpigppaaDiskG
import Derived.Test.YtalmdccgpigppaaDiskH
namespace Go.Proofs.Ytalmdccgpigppaa
open Go.RowKit
set_option linter.unusedVariables false
set_option linter.unusedSimpArgs false
theorem DiskAt.belowK {w w' : World} {base : Nat} {p : DiskP} {A : Option Addr} {c : Nat} {D : DiskV} (h : DiskAt w base p A c D) (k : Keep (foot p A) w w') (hb : base ≤ w.heap.size) : Below base w w' := k.below h.bs hb
def D6a : DiskV := newV 3 3
def D6b : DiskV := (writeV D6a 1 (fullL [7])).1
def D6c : DiskV := crashV D6b [2]
theorem d6_facts : D6a.many = 3 ∧ D6a.room - (trues D6a.might : Nat) = 3 ∧ mayV D6c 1 = 0 ∧ byteAt (secOf D6c.now 1) 0 = 7 ∧ byteAt (secOf D6c.now 1) 1 = 7 ∧ byteAt (secOf D6c.now 1) 2 = 0 ∧ (readV' D6c).room - (trues (readV' D6c).might : Nat) = 2 ∧ D6a.waits.length = 0 ∧ D6c.now.length = 384 := by decide +kernel
end Go.Proofs.Ytalmdccgpigppaa
