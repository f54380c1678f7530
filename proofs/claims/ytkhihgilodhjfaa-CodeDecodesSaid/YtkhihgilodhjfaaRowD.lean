/- Contracts of package row: reading. -/
import Derived.Test.YtkhihgilodhjfaaRowC
import Derived.Test.YtkhihgilodhjfaaZag
import Derived.Deep.RegionHeld3
import Derived.Deep.RegionLaw
import Derived.Deep.AppendLies
namespace Go.Proofs.Ytkhihgilodhjfaa
open Go.RowKit

/-- What the reading of a row holds in its two variables: the bytes that are left, and the values. -/
structure RdSt (w0 w : World) (gb go : Nat) (bs : List UInt8) (out : List Int) (i : Nat) : Prop where
  below : Below w0.heap.size w0 w
  hb : w0.heap.size ≤ gb
  ho : w0.heap.size ≤ go
  bb : ∃ A n c, Blk w gb 29 [.slice A n c] ∧ RB w0 A n (bs.drop i) ∧ n ≤ c ∧ c ≤ maxLen
  bo : ∃ A n c, Blk w go 22 [.slice A n c] ∧ Ow iv w w0.heap.size 3 A n c out

theorem cut_rb {w : World} {A : Option Addr} {n c k : Nat} {l : List UInt8} (h : RB w A n l) (hk : k ≤ n) (hc : n ≤ c) : RB w (if c = k then A else A.map (·.add (k * 1))) (n - k) (l.drop k) := by
  refine ⟨by rw [List.length_drop, h.1], ?_⟩
  have := h.2.cut hk hc
  rw [Nat.mul_one]
  exact this.congr fun i hi => by unfold byteAt; simp [List.getD_eq_getElem?_getD]

end Go.Proofs.Ytkhihgilodhjfaa
