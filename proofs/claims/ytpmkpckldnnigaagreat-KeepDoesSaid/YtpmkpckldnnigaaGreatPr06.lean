/- Parts: StateE. -/
import Derived.Test.YtpmkpckldnnigaaGreatPr05
namespace Go.Proofs.YtpmkpckldnnigaaGreat
open Go.RowKit

def noSnap : SV := ⟨0, 0, []⟩
def cellsK (bs : List UInt8) (k : Nat) : List Int := (List.range k).map fun k => numAt bs (16 + 8 * k)
def snapOf (n : Nat) (bs : List UInt8) : SV := ⟨numAt bs 0, numAt bs 8, cellsK bs n⟩
def stRead (p : PV) (bs : List UInt8) : SV × Nat :=
  if mayB p = false then (noSnap, 2)
  else if bs.length < 8 * (2 + p.cells.length) then (noSnap, 10)
  else if 8 * (2 + p.cells.length) < bs.length then (noSnap, 12)
  else if stFits p (snapOf p.cells.length bs) then (snapOf p.cells.length bs, 0) else (noSnap, 11)
/-- What reading a snapshot hands back. -/
def StEnd (w : World) (r : SV × Nat) (e : Ending) (w' : World) : Prop := ∃ A m d, e = .returned (.tuple #[.agg #[.int .i64 r.1.tick, .int .i64 r.1.hash, .slice A m d], .int .i64 (r.2 : Nat)]) ∧ RI w' A m r.1.cells ∧ m ≤ d ∧ d ≤ maxLen ∧ Below w.heap.size w w'
theorem StEnd.bad {w w' : World} {r : SV × Nat} (z : Int) (h1 : r.1 = noSnap) (h2 : z = (r.2 : Nat)) (hb : Below w.heap.size w w') : StEnd w r (.returned (.tuple #[.agg #[.int .i64 0, .int .i64 0, .slice none 0 0], .int .i64 z])) w' :=
  ⟨none, 0, 0, by rw [h1, h2]; rfl, by rw [h1]; exact ⟨rfl, Row.nil _ _ _⟩, Nat.le_refl _, by simp [maxLen], hb⟩

/-- The same, and the cells lie in a new row of ints. -/
def StEndT (w : World) (r : SV × Nat) (e : Ending) (w' : World) : Prop := ∃ A m d, e = .returned (.tuple #[.agg #[.int .i64 r.1.tick, .int .i64 r.1.hash, .slice A m d], .int .i64 (r.2 : Nat)]) ∧ RI w' A m r.1.cells ∧ m ≤ d ∧ d ≤ maxLen ∧ (∀ g, A.map (·.block) = some g → w.heap.size ≤ g ∧ ∃ cs, Blk w' g 3 cs) ∧ Below w.heap.size w w'
theorem StEndT.bad {w w' : World} {r : SV × Nat} (z : Int) (h1 : r.1 = noSnap) (h2 : z = (r.2 : Nat)) (hb : Below w.heap.size w w') : StEndT w r (.returned (.tuple #[.agg #[.int .i64 0, .int .i64 0, .slice none 0 0], .int .i64 z])) w' :=
  ⟨none, 0, 0, by rw [h1, h2]; rfl, by rw [h1]; exact ⟨rfl, Row.nil _ _ _⟩, Nat.le_refl _, by simp [maxLen], fun g e => (by cases e), hb⟩
/-- The same, and the cells are its own. -/
def StEndO (w : World) (r : SV × Nat) (e : Ending) (w' : World) : Prop := ∃ A m d, e = .returned (.tuple #[.agg #[.int .i64 r.1.tick, .int .i64 r.1.hash, .slice A m d], .int .i64 (r.2 : Nat)]) ∧ (∃ b, w.heap.size ≤ b ∧ Ow iv w' b 3 A m d r.1.cells) ∧ Below w.heap.size w w'
theorem StEndO.bad {w w' : World} {r : SV × Nat} (z : Int) (h1 : r.1 = noSnap) (h2 : z = (r.2 : Nat)) (hb : Below w.heap.size w w') : StEndO w r (.returned (.tuple #[.agg #[.int .i64 0, .int .i64 0, .slice none 0 0], .int .i64 z])) w' :=
  ⟨none, 0, 0, by rw [h1, h2]; rfl, by rw [h1]; exact ⟨w.heap.size, Nat.le_refl _, Ow.nil _ _ _ _⟩, hb⟩
end Go.Proofs.YtpmkpckldnnigaaGreat
