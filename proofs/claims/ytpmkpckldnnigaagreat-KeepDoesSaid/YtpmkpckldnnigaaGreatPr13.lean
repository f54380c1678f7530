/- Parts: SealA, SealB. -/
import Derived.Test.YtpmkpckldnnigaaGreatPr03
import Derived.Test.YtpmkpckldnnigaaGreatPr11
import Derived.Test.YtpmkpckldnnigaaGreatPr12
import Derived.Test.YtpmkpckldnnigaaGreatPr01
import Derived.Deep.WholeRow
import Derived.Deep.RegionHeld3
namespace Go.Proofs.YtpmkpckldnnigaaGreat
open Go.RowKit

theorem zero128 : (Tryz.prog.info? 152).map (fun i => (i.zero, i.size)) = some (some (aggB zerosL), 128) := by kernel_rfl

end Go.Proofs.YtpmkpckldnnigaaGreat
namespace Go.Proofs.YtpmkpckldnnigaaGreat
open Go.RowKit

end Go.Proofs.YtpmkpckldnnigaaGreat
namespace Go.Proofs.YtpmkpckldnnigaaGreat
open Go.RowKit

/-- Open, where the first looks let it by, out of what Make says. -/
def OpenEnd (y9 : Nat) (K : List UInt8) (q : Bool) (N : Int) (w : World) (e : Ending) (w' : World) : Prop :=
  (q = false ∧ e = .returned (.tuple #[.int .i64 0, .slice none 0 0, .int .i64 53]) ∧ Below w.heap.size w w') ∨
  (q = true ∧ ∃ A c, e = .returned (.tuple #[.int .i64 N, .slice A y9 c, .int .i64 0]) ∧ OB w' w.heap.size 5 A y9 c K ∧ Below w.heap.size w w')
theorem OpenEnd.no {y9 : Nat} {K : List UInt8} {N : Int} {w w' : World} (h : Below w.heap.size w w') : OpenEnd y9 K false N w (.returned (.tuple #[.int .i64 0, .slice none 0 0, .int .i64 53])) w' := .inl ⟨rfl, rfl, h⟩
theorem OpenEnd.yes {y9 c : Nat} {A : Option Addr} {K : List UInt8} {N : Int} {w w' : World} (h : Below w.heap.size w w') (ho : OB w' w.heap.size 5 A y9 c K) : OpenEnd y9 K true N w (.returned (.tuple #[.int .i64 N, .slice A y9 c, .int .i64 0])) w' := .inr ⟨rfl, A, c, rfl, ho, h⟩
end Go.Proofs.YtpmkpckldnnigaaGreat
namespace Go.Proofs.YtpmkpckldnnigaaGreat
open Go.RowKit

/-- What Make answers: the bytes, the error. -/
def makeL (kind n : Int) (l : List UInt8) : List UInt8 × Int :=
  if kind < 1 ∨ 255 < kind ∨ n < 0 then (zerosL, 2) else if 113 < l.length then (zerosL, 3) else (sealL kind.toNat n.toNat l, 0)
theorem makeL_len (kind n : Int) (l : List UInt8) : (makeL kind n l).1.length = 128 := by
  unfold makeL
  split
  · exact zerosL_len
  · split
    · exact zerosL_len
    · exact sealL_len _ _ _ (by omega)
end Go.Proofs.YtpmkpckldnnigaaGreat
