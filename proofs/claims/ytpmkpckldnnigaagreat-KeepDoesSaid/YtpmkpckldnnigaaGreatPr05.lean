/- Parts: StateB, RefNumA, StateC, RefNumC, RefNumD, RefNumE, RowB, RowC, RefNumF, Zag, RowD, StateD. -/
import Derived.Test.YtpmkpckldnnigaaGreatPr04
import Derived.Test.YtpmkpckldnnigaaGreatPr02
import Derived.Test.YtpmkpckldnnigaaGreatPr03
import Derived.Deep.RegionHeld3
import Derived.Test.YtpmkpckldnnigaaGreatPr01
import Derived.Deep.RegionLaw
import Derived.Deep.AppendLies
namespace Go.Proofs.YtpmkpckldnnigaaGreat
open Go.RowKit

end Go.Proofs.YtpmkpckldnnigaaGreat
namespace Go.Proofs.YtpmkpckldnnigaaGreat
open Go.RowKit

end Go.Proofs.YtpmkpckldnnigaaGreat
namespace Go.Proofs.YtpmkpckldnnigaaGreat
open Go.RowKit

theorem RI.addr {w : World} {A : Option Addr} {n : Nat} {l : List Int} (h : RI w A n l) (hn : 0 < n) : ∃ b o, A = some ⟨b, o, none⟩ ∧ b < w.heap.size := by
  obtain ⟨b, o, hA, hb, _⟩ := h.at_ hn
  exact ⟨b, o, hA, hb⟩

end Go.Proofs.YtpmkpckldnnigaaGreat
namespace Go.Proofs.YtpmkpckldnnigaaGreat
open Go.RowKit

end Go.Proofs.YtpmkpckldnnigaaGreat
namespace Go.Proofs.YtpmkpckldnnigaaGreat
open Go.RowKit

def nBs (n : Int) : List UInt8 := putL (un n)
theorem nBs_len (n : Int) : (nBs n).length = 8 := putL_len _
def stBs (s : SV) : List UInt8 := nBs s.tick ++ nBs s.hash ++ s.cells.flatMap nBs
end Go.Proofs.YtpmkpckldnnigaaGreat
namespace Go.Proofs.YtpmkpckldnnigaaGreat
open Go.RowKit

end Go.Proofs.YtpmkpckldnnigaaGreat
namespace Go.Proofs.YtpmkpckldnnigaaGreat
open Go.RowKit

/-! ### Turned numbers -/
end Go.Proofs.YtpmkpckldnnigaaGreat
namespace Go.Proofs.YtpmkpckldnnigaaGreat
open Go.RowKit

end Go.Proofs.YtpmkpckldnnigaaGreat
namespace Go.Proofs.YtpmkpckldnnigaaGreat
open Go.RowKit

end Go.Proofs.YtpmkpckldnnigaaGreat
namespace Go.Proofs.YtpmkpckldnnigaaGreat
open Go.RowKit

end Go.Proofs.YtpmkpckldnnigaaGreat
namespace Go.Proofs.YtpmkpckldnnigaaGreat
open Go.RowKit

end Go.Proofs.YtpmkpckldnnigaaGreat
namespace Go.Proofs.YtpmkpckldnnigaaGreat
open Go.RowKit

end Go.Proofs.YtpmkpckldnnigaaGreat
namespace Go.Proofs.YtpmkpckldnnigaaGreat
open Go.RowKit

/-- What the reading of a row holds in its two variables: the bytes that are left, and the values. -/
structure RdSt (w0 w : World) (gb go : Nat) (bs : List UInt8) (out : List Int) (i : Nat) : Prop where
  below : Below w0.heap.size w0 w
  hb : w0.heap.size ≤ gb
  ho : w0.heap.size ≤ go
  bb : ∃ A n c, Blk w gb 22 [.slice A n c] ∧ RB w0 A n (bs.drop i) ∧ n ≤ c ∧ c ≤ maxLen
  bo : ∃ A n c, Blk w go 23 [.slice A n c] ∧ Ow iv w w0.heap.size 3 A n c out

end Go.Proofs.YtpmkpckldnnigaaGreat
namespace Go.Proofs.YtpmkpckldnnigaaGreat
open Go.RowKit

/-- What reads numbers holds: the bytes that are left. -/
structure NumSt (w0 w : World) (gb : Nat) (bs : List UInt8) (i : Nat) : Prop where
  below : Below w0.heap.size w0 w
  hb : w0.heap.size ≤ gb
  bb : ∃ A n c, Blk w gb 22 [.slice A n c] ∧ RB w0 A n (bs.drop i) ∧ n ≤ c ∧ c ≤ maxLen
def numAt (bs : List UInt8) (i : Nat) : Int := sg (getL ((bs.drop i).take 8))
end Go.Proofs.YtpmkpckldnnigaaGreat
