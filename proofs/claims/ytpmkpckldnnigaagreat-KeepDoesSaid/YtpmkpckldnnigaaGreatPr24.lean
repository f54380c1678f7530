/- Parts: JrnC. -/
import Derived.Test.YtpmkpckldnnigaaGreatPr22
namespace Go.Proofs.YtpmkpckldnnigaaGreat
open Go.RowKit
set_option linter.unusedVariables false
set_option linter.unusedSimpArgs false
/-- Sectors are wiped, one behind the other, till one is not. -/
def wipeK (D : DiskV) (f m : Nat) : List Int → DiskV × Int
  | [] => (D, 0)
  | n :: l => if (aWriteV D f m n zerosL).2 ≠ 0 then aWriteV D f m n zerosL else wipeK (aWriteV D f m n zerosL).1 f m l
def jWipe (D : DiskV) (f m : Nat) (kind : Int) : DiskV × Int := wipeK (rdK D m) f m (scanK D.now f kind m).2.2
def jOpenV (D : DiskV) (f m : Nat) (kind : Int) : DiskV × Nat × Int :=
  if kind < 1 ∨ 255 < kind then (D, 0, 2)
  else if D.off = true then (D, 0, 50)
  else if (jWipe D f m kind).2 ≠ 0 then ((jWipe D f m kind).1, 0, (jWipe D f m kind).2)
  else if (scanK D.now f kind m).2.2 = [] then ((jWipe D f m kind).1, (scanK D.now f kind m).2.1, 0)
  else if (flushV (jWipe D f m kind).1).2 ≠ 0 then ((flushV (jWipe D f m kind).1).1, 0, (flushV (jWipe D f m kind).1).2)
  else ((flushV (jWipe D f m kind).1).1, (scanK D.now f kind m).2.1, 0)
def OpPost (w : World) (base ga : Nat) (kind : Int) (p : DiskP) (R : DiskV × Nat × Int) (e : Ending) (w' : World) : Prop :=
  ∃ P, e = .returned (.tuple #[.pointer P, .int .i64 R.2.2]) ∧ (R.2.2 ≠ 0 → P = none) ∧ (R.2.2 = 0 → ∃ gj, P = some ⟨gj, 0, none⟩ ∧ w.heap.size ≤ gj ∧ JrnAt w' gj ga kind R.2.1) ∧ DiskS w' base p R.1 ∧ Step mutD base p w w'
theorem OpPost.no {w w' : World} {base ga : Nat} {kind z : Int} {p : DiskP} {D : DiskV} (hz : z ≠ 0) (hd : DiskS w' base p D) (hs : Step mutD base p w w') : OpPost w base ga kind p (D, 0, z) (.returned (.tuple #[.pointer none, .int .i64 z])) w' :=
  ⟨none, rfl, fun _ => rfl, fun e => absurd e hz, hd, hs⟩
theorem OpPost.yes {w w' : World} {base ga gj next : Nat} {kind : Int} {p : DiskP} {D : DiskV} (hg : w.heap.size ≤ gj) (hj : JrnAt w' gj ga kind next) (hd : DiskS w' base p D) (hs : Step mutD base p w w') : OpPost w base ga kind p (D, next, 0) (.returned (.tuple #[.pointer (some ⟨gj, 0, none⟩), .int .i64 0])) w' :=
  ⟨_, rfl, fun e => absurd rfl e, fun _ => ⟨gj, rfl, hg, hj⟩, hd, hs⟩
section
variable {w w' : World} {base ga f m : Nat} {kind : Int} {p : DiskP} {D : DiskV}
theorem wipeK_step {D : DiskV} {f m : Nat} {n : Int} {l : List Int} (h : (aWriteV D f m n zerosL).2 = 0) : wipeK D f m (n :: l) = wipeK (aWriteV D f m n zerosL).1 f m l := by
  show (if (aWriteV D f m n zerosL).2 ≠ 0 then _ else _) = _
  rw [if_neg (by omega)]
theorem wipeK_stop {D : DiskV} {f m : Nat} {n : Int} {l : List Int} (h : (aWriteV D f m n zerosL).2 ≠ 0) : wipeK D f m (n :: l) = aWriteV D f m n zerosL := by
  show (if (aWriteV D f m n zerosL).2 ≠ 0 then _ else _) = _
  rw [if_pos h]
end
end Go.Proofs.YtpmkpckldnnigaaGreat
