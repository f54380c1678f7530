/- Parts: PlainSlots. -/
import Derived.Test.YtpmkpckldnnigaaGreatPr22
namespace Go.Proofs.YtpmkpckldnnigaaGreat
open Go.RowKit
set_option linter.unusedVariables false
set_option linter.unusedSimpArgs false
/-- A text's sum as four bytes. -/
def sumL (l : List UInt8) : List UInt8 := le4 (crcSum [l])
/-- In how many sectors so many bytes stand. -/
def secsN (n : Nat) : Nat := (n + 127) / 128
/-- What stands in the first k sectors behind an area's first one. -/
def bodyL (now : List UInt8) (f : Nat) : Nat → List UInt8
  | 0 => []
  | k + 1 => bodyL now f k ++ secOf now ((f + (1 + k) : Nat) : Int)
/-- How many bytes a head says that there are. -/
def headN (L : List UInt8) : Int := sg (getL (L.take 8))
/-- What a slot has: the disk behind it, the load, its number, the error (53: it is not whole). -/
def wholeV (D : DiskV) (f m : Nat) : DiskV × List UInt8 × Int × Int :=
  if (aTakeV D f m 0 2).2.2 ≠ 0 then ((aReadV D f m 0).1, [], 0, (aTakeV D f m 0 2).2.2)
  else if (aTakeV D f m 0 2).2.1.length ≠ 12 then ((aReadV D f m 0).1, [], 0, 53)
  else if headN (aTakeV D f m 0 2).2.1 < 0 ∨ 512 < headN (aTakeV D f m 0 2).2.1 then ((aReadV D f m 0).1, [], 0, 53)
  else if sumL ((bodyL D.now f (secsN (headN (aTakeV D f m 0 2).2.1).toNat)).take (headN (aTakeV D f m 0 2).2.1).toNat) = (aTakeV D f m 0 2).2.1.drop 8
  then (rdK (aReadV D f m 0).1 (secsN (headN (aTakeV D f m 0 2).2.1).toNat), (bodyL D.now f (secsN (headN (aTakeV D f m 0 2).2.1).toNat)).take (headN (aTakeV D f m 0 2).2.1).toNat, (aTakeV D f m 0 2).1, 0)
  else (rdK (aReadV D f m 0).1 (secsN (headN (aTakeV D f m 0 2).2.1).toNat), [], 0, 53)
/-- The slots: which of them is the newest (2: none), its number, what it has. -/
structure SlV3 where
  now : Nat
  number : Int
  load : List UInt8
/-- What opening both says: the disk, the slots, the error. -/
def openSV (D : DiskV) (fl ml fr mr : Nat) : DiskV × SlV3 × Int :=
  if (wholeV D fl ml).2.2.2 ≠ 0 ∧ (wholeV D fl ml).2.2.2 ≠ 53 then ((wholeV D fl ml).1, ⟨2, 0, []⟩, (wholeV D fl ml).2.2.2)
  else if (wholeV (wholeV D fl ml).1 fr mr).2.2.2 ≠ 0 ∧ (wholeV (wholeV D fl ml).1 fr mr).2.2.2 ≠ 53 then ((wholeV (wholeV D fl ml).1 fr mr).1, ⟨2, 0, []⟩, (wholeV (wholeV D fl ml).1 fr mr).2.2.2)
  else if (wholeV D fl ml).2.2.2 = 0 ∧ ((wholeV (wholeV D fl ml).1 fr mr).2.2.2 ≠ 0 ∨ (wholeV (wholeV D fl ml).1 fr mr).2.2.1 ≤ (wholeV D fl ml).2.2.1) then ((wholeV (wholeV D fl ml).1 fr mr).1, ⟨0, (wholeV D fl ml).2.2.1, (wholeV D fl ml).2.1⟩, 0)
  else if (wholeV (wholeV D fl ml).1 fr mr).2.2.2 = 0 then ((wholeV (wholeV D fl ml).1 fr mr).1, ⟨1, (wholeV (wholeV D fl ml).1 fr mr).2.2.1, (wholeV (wholeV D fl ml).1 fr mr).2.1⟩, 0)
  else ((wholeV (wholeV D fl ml).1 fr mr).1, ⟨2, 0, []⟩, 0)
/-- The i-th sector of a load. -/
def padL (load : List UInt8) (i : Nat) : List UInt8 := (load.drop (i * 128)).take 128 ++ List.replicate (128 - ((load.drop (i * 128)).take 128).length) 0
theorem padL_len (load : List UInt8) (i : Nat) : (padL load i).length = 128 := by
  unfold padL
  rw [List.length_append, List.length_replicate, List.length_take]
  omega
/-- The sectors of a load from the i-th on, k of them, are written; till one is not. -/
def fillK (D : DiskV) (f m : Nat) (load : List UInt8) : Nat → Nat → DiskV × Int
  | _, 0 => (D, 0)
  | i, k + 1 => if (aWriteV D f m ((1 + i : Nat) : Int) (padL load i)).2 ≠ 0 then aWriteV D f m ((1 + i : Nat) : Int) (padL load i) else fillK (aWriteV D f m ((1 + i : Nat) : Int) (padL load i)).1 f m load (i + 1) k
def fillV (D : DiskV) (f m : Nat) (load : List UInt8) : DiskV × Int :=
  if (fillK D f m load 0 (secsN load.length)).2 ≠ 0 then fillK D f m load 0 (secsN load.length) else flushV (fillK D f m load 0 (secsN load.length)).1
/-- A head's load. -/
def headL (load : List UInt8) : List UInt8 := putL (un load.length) ++ sumL load
/-- A load is saved in an area: the disk, the error. -/
def saveA (D : DiskV) (f m : Nat) (number : Int) (load : List UInt8) : DiskV × Int :=
  if (aWriteV D f m 0 zerosL).2 ≠ 0 then aWriteV D f m 0 zerosL
  else if (flushV (aWriteV D f m 0 zerosL).1).2 ≠ 0 then flushV (aWriteV D f m 0 zerosL).1
  else if (fillV (flushV (aWriteV D f m 0 zerosL).1).1 f m load).2 ≠ 0 then fillV (flushV (aWriteV D f m 0 zerosL).1).1 f m load
  else if (aPutV (fillV (flushV (aWriteV D f m 0 zerosL).1).1 f m load).1 f m 0 2 number (headL load)).2 ≠ 0 then aPutV (fillV (flushV (aWriteV D f m 0 zerosL).1).1 f m load).1 f m 0 2 number (headL load)
  else flushV (aPutV (fillV (flushV (aWriteV D f m 0 zerosL).1).1 f m load).1 f m 0 2 number (headL load)).1
/-- Save: the disk, the slots, the error. -/
def saveSV (D : DiskV) (fl ml fr mr : Nat) (s : SlV3) (load : List UInt8) : DiskV × SlV3 × Int :=
  if 512 < load.length ∨ s.number = 9223372036854775807 then (D, s, 3)
  else if (saveA D (if s.now = 0 then fr else fl) (if s.now = 0 then mr else ml) (s.number + 1) load).2 ≠ 0 then ((saveA D (if s.now = 0 then fr else fl) (if s.now = 0 then mr else ml) (s.number + 1) load).1, s, (saveA D (if s.now = 0 then fr else fl) (if s.now = 0 then mr else ml) (s.number + 1) load).2)
  else ((saveA D (if s.now = 0 then fr else fl) (if s.now = 0 then mr else ml) (s.number + 1) load).1, ⟨if s.now = 0 then 1 else 0, s.number + 1, load⟩, 0)
end Go.Proofs.YtpmkpckldnnigaaGreat
