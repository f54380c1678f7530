/- Parts: JrnA, JrnB, PlainSlots, JrnC. -/
import Derived.Test.YtalmdccgpigppaaPr27
import Derived.Deep.RegionHeld3
namespace Go.Proofs.Ytalmdccgpigppaa
open Go.RowKit
set_option linter.unusedVariables false
set_option linter.unusedSimpArgs false
def jrnC (ga : Nat) (kind : Int) (next : Nat) : List Value := [.pointer (some ⟨ga, 0, none⟩), .int .i64 kind, .int .i64 (next : Int)]
def JrnAt (w : World) (gj ga : Nat) (kind : Int) (next : Nat) : Prop := Blk w gj 178 (jrnC ga kind next)
def jGetV (D : DiskV) (f m : Nat) (kind : Int) (next : Nat) (n : Int) : DiskV × List UInt8 × Int :=
  if n < 0 ∨ (next : Int) ≤ n then (D, [], 54) else if (aTakeV D f m n kind).2.2 ≠ 0 then ((aReadV D f m n).1, [], (aTakeV D f m n kind).2.2)
  else if (aTakeV D f m n kind).1 ≠ n then ((aReadV D f m n).1, [], 53) else ((aReadV D f m n).1, (aTakeV D f m n kind).2.1, 0)
def jAddV (D : DiskV) (f m : Nat) (kind : Int) (next : Nat) (l : List UInt8) : DiskV × Nat × Int × Int :=
  if 113 < l.length then (D, next, 0, 3) else if m = next then (D, next, 0, 52)
  else if (aPutV D f m next kind next l).2 ≠ 0 then ((aPutV D f m next kind next l).1, next, 0, (aPutV D f m next kind next l).2)
  else ((aPutV D f m next kind next l).1, next + 1, (next : Int), 0)
section
variable {w w' : World} {base ga gj f m next : Nat} {kind : Int} {p : DiskP} {D : DiskV}
theorem DiskS.drew (h : DiskS w base p D) : DiskS w.drew base p D := by
  obtain ⟨A, c, h⟩ := h; exact ⟨A, c, h.drewN 1⟩
end
end Go.Proofs.Ytalmdccgpigppaa
namespace Go.Proofs.Ytalmdccgpigppaa
open Go.RowKit
set_option linter.unusedVariables false
set_option linter.unusedSimpArgs false
theorem DiskS.grown {α : Type} {enc : α → Value} {w w' : World} {base b n c : Nat} {e : TypeId} {B : Option Addr} {p : DiskP} {D : DiskV} {l : List α} (h : DiskS w base p D) (ho : Ow enc w b e B n c l) (hg : w.grownBy w' (B.map (·.block))) (ht : e ∉ 4 :: mutD) : DiskS w' base p D := by
  obtain ⟨A, a, h⟩ := h
  refine ⟨A, a, h.keep (F := fun g => B.map (·.block) = some g) (Keep.of_grown hg (fun g e => e)) (fun g hf he => ?_)⟩
  rcases ho.2.2 with ⟨hv, _⟩ | ⟨g', cap, cur, hv, _, hh, _⟩
  · injection hv with hv; subst hv; cases he
  · injection hv with hv
    subst hv
    simp only [Option.map_some, Option.some.injEq] at he
    subst he
    rcases h.foot_ty (t := e) (cs := cur.toList) (by unfold Blk; rw [hh]) hf with q | q | q | q | q
    all_goals exact ht (by rw [q]; decide)
theorem Step.then_below {M : List TypeId} {w w1 w2 : World} {base : Nat} {p : DiskP} (h : Step M base p w w1) (hb : Below w.heap.size w1 w2) (hs : base ≤ w.heap.size) : Step M base p w w2 := by
  obtain ⟨h1, F, hF, tF⟩ := h
  refine ⟨h1.trans (hb.mono hs), F, ⟨hb.os.trans hF.os, hb.tape.trans hF.tape, hb.output.trans hF.output, Nat.le_trans hF.size hb.size, fun k hk hn => (hb.block k hk).trans (hF.block k hk hn)⟩, tF⟩
def rdK (D : DiskV) : Nat → DiskV
  | 0 => D
  | k + 1 => readV' (rdK D k)
theorem rdK_ops (D : DiskV) : ∀ k, ∃ o, rdK D k = { D with ops := o } := by
  intro k
  induction k with
  | zero => exact ⟨D.ops, rfl⟩
  | succ k ih => obtain ⟨o, e⟩ := ih; exact ⟨mAdd o 1 1, by show readV' (rdK D k) = _; rw [e]; rfl⟩
/-- What is a record, so far; how many; which sectors behind them are not blank. -/
def recB (S : List UInt8) (kind : Int) (k : Nat) : Bool := opens S kind && decide (sg (openNum S) = (k : Int))
def scanK (now : List UInt8) (f : Nat) (kind : Int) : Nat → Bool × Nat × List Int
  | 0 => (true, 0, [])
  | k + 1 =>
    if (scanK now f kind k).1 = true ∧ recB (secOf now ((f + k : Nat) : Int)) kind k = true then (true, (scanK now f kind k).2.1 + 1, (scanK now f kind k).2.2)
    else (false, (scanK now f kind k).2.1, if secOf now ((f + k : Nat) : Int) = zerosL then (scanK now f kind k).2.2 else (scanK now f kind k).2.2 ++ [(k : Int)])
theorem scanK_le (now : List UInt8) (f : Nat) (kind : Int) : ∀ k, (scanK now f kind k).2.1 ≤ k ∧ (scanK now f kind k).2.2.length ≤ k := by
  intro k
  induction k with
  | zero => exact ⟨Nat.le_refl _, Nat.le_refl _⟩
  | succ k ih =>
    unfold scanK
    split
    · simp only; omega
    · simp only
      split
      · omega
      · rw [List.length_append, List.length_singleton]; omega
section
variable {w w' : World} {base ga gj f m : Nat} {kind : Int} {p : DiskP} {D : DiskV}
theorem onRead {D : DiskV} (h : D.off = false) {f m k : Nat} (hfm : f + m ≤ D.many) (hk : k < m) : aReadV D f m (k : Int) = (readV' D, secOf D.now ((f + k : Nat) : Int), 0) := by
  unfold aReadV readV
  have hm : mayV D ((f : Int) + k) = 0 := by unfold mayV; rw [h]; simp; omega
  rw [if_neg (by omega), hm, if_neg (by simp)]
  rw [show ((f : Int) + (k : Int)) = ((f + k : Nat) : Int) by omega]
end
end Go.Proofs.Ytalmdccgpigppaa
namespace Go.Proofs.Ytalmdccgpigppaa
open Go.RowKit
set_option linter.unusedVariables false
set_option linter.unusedSimpArgs false
/-- A text's sum as four bytes. -/
def sumL (l : List UInt8) : List UInt8 := le4 (crcSum [l])
/-- In how many sectors so many bytes stand. -/
def secsN (n : Nat) : Nat := (n + 127) / 128
/-- What stands in the first k sectors behind an area's first one. -/
def bodyL (now : List UInt8) (f : Nat) : Nat → List UInt8
  | 0 => []
  | k + 1 => bodyL now f k ++ secOf now ((f + (1 + k) : Nat) : Int)
theorem bodyL_len {now : List UInt8} {s f : Nat} (h : now.length = s * 128) : ∀ k, f + (1 + k) ≤ s → (bodyL now f k).length = k * 128 := by
  intro k
  induction k with
  | zero => intro _; rfl
  | succ k ih =>
    intro hk
    unfold bodyL
    rw [List.length_append, ih (by omega), secOf_len h (by omega) (by omega)]
    omega
/-- How many bytes a head says that there are. -/
def headN (L : List UInt8) : Int := sg (getL (L.take 8))
/-- What a slot has: the disk behind it, the load, its number, the error (53: it is not whole). -/
def wholeV (D : DiskV) (f m : Nat) : DiskV × List UInt8 × Int × Int :=
  if (aTakeV D f m 0 2).2.2 ≠ 0 then ((aReadV D f m 0).1, [], 0, (aTakeV D f m 0 2).2.2)
  else if (aTakeV D f m 0 2).2.1.length ≠ 12 then ((aReadV D f m 0).1, [], 0, 53)
  else if headN (aTakeV D f m 0 2).2.1 < 0 ∨ 512 < headN (aTakeV D f m 0 2).2.1 then ((aReadV D f m 0).1, [], 0, 53)
  else if sumL ((bodyL D.now f (secsN (headN (aTakeV D f m 0 2).2.1).toNat)).take (headN (aTakeV D f m 0 2).2.1).toNat) = (aTakeV D f m 0 2).2.1.drop 8
  then (rdK (aReadV D f m 0).1 (secsN (headN (aTakeV D f m 0 2).2.1).toNat), (bodyL D.now f (secsN (headN (aTakeV D f m 0 2).2.1).toNat)).take (headN (aTakeV D f m 0 2).2.1).toNat, (aTakeV D f m 0 2).1, 0)
  else (rdK (aReadV D f m 0).1 (secsN (headN (aTakeV D f m 0 2).2.1).toNat), [], 0, 53)
/-- The slots: which of them is the newest (2: none), its number, what it has. -/
structure SlV3 where
  now : Nat
  number : Int
  load : List UInt8
/-- What opening both says: the disk, the slots, the error. -/
def openSV (D : DiskV) (fl ml fr mr : Nat) : DiskV × SlV3 × Int :=
  if (wholeV D fl ml).2.2.2 ≠ 0 ∧ (wholeV D fl ml).2.2.2 ≠ 53 then ((wholeV D fl ml).1, ⟨2, 0, []⟩, (wholeV D fl ml).2.2.2)
  else if (wholeV (wholeV D fl ml).1 fr mr).2.2.2 ≠ 0 ∧ (wholeV (wholeV D fl ml).1 fr mr).2.2.2 ≠ 53 then ((wholeV (wholeV D fl ml).1 fr mr).1, ⟨2, 0, []⟩, (wholeV (wholeV D fl ml).1 fr mr).2.2.2)
  else if (wholeV D fl ml).2.2.2 = 0 ∧ ((wholeV (wholeV D fl ml).1 fr mr).2.2.2 ≠ 0 ∨ (wholeV (wholeV D fl ml).1 fr mr).2.2.1 ≤ (wholeV D fl ml).2.2.1) then ((wholeV (wholeV D fl ml).1 fr mr).1, ⟨0, (wholeV D fl ml).2.2.1, (wholeV D fl ml).2.1⟩, 0)
  else if (wholeV (wholeV D fl ml).1 fr mr).2.2.2 = 0 then ((wholeV (wholeV D fl ml).1 fr mr).1, ⟨1, (wholeV (wholeV D fl ml).1 fr mr).2.2.1, (wholeV (wholeV D fl ml).1 fr mr).2.1⟩, 0)
  else ((wholeV (wholeV D fl ml).1 fr mr).1, ⟨2, 0, []⟩, 0)
/-- The i-th sector of a load. -/
def padL (load : List UInt8) (i : Nat) : List UInt8 := (load.drop (i * 128)).take 128 ++ List.replicate (128 - ((load.drop (i * 128)).take 128).length) 0
theorem padL_len (load : List UInt8) (i : Nat) : (padL load i).length = 128 := by
  unfold padL
  rw [List.length_append, List.length_replicate, List.length_take]
  omega
/-- The sectors of a load from the i-th on, k of them, are written; till one is not. -/
def fillK (D : DiskV) (f m : Nat) (load : List UInt8) : Nat → Nat → DiskV × Int
  | _, 0 => (D, 0)
  | i, k + 1 => if (aWriteV D f m ((1 + i : Nat) : Int) (padL load i)).2 ≠ 0 then aWriteV D f m ((1 + i : Nat) : Int) (padL load i) else fillK (aWriteV D f m ((1 + i : Nat) : Int) (padL load i)).1 f m load (i + 1) k
def fillV (D : DiskV) (f m : Nat) (load : List UInt8) : DiskV × Int :=
  if (fillK D f m load 0 (secsN load.length)).2 ≠ 0 then fillK D f m load 0 (secsN load.length) else flushV (fillK D f m load 0 (secsN load.length)).1
/-- A head's load. -/
def headL (load : List UInt8) : List UInt8 := putL (un load.length) ++ sumL load
/-- A load is saved in an area: the disk, the error. -/
def saveA (D : DiskV) (f m : Nat) (number : Int) (load : List UInt8) : DiskV × Int :=
  if (aWriteV D f m 0 zerosL).2 ≠ 0 then aWriteV D f m 0 zerosL
  else if (flushV (aWriteV D f m 0 zerosL).1).2 ≠ 0 then flushV (aWriteV D f m 0 zerosL).1
  else if (fillV (flushV (aWriteV D f m 0 zerosL).1).1 f m load).2 ≠ 0 then fillV (flushV (aWriteV D f m 0 zerosL).1).1 f m load
  else if (aPutV (fillV (flushV (aWriteV D f m 0 zerosL).1).1 f m load).1 f m 0 2 number (headL load)).2 ≠ 0 then aPutV (fillV (flushV (aWriteV D f m 0 zerosL).1).1 f m load).1 f m 0 2 number (headL load)
  else flushV (aPutV (fillV (flushV (aWriteV D f m 0 zerosL).1).1 f m load).1 f m 0 2 number (headL load)).1
/-- Save: the disk, the slots, the error. -/
def saveSV (D : DiskV) (fl ml fr mr : Nat) (s : SlV3) (load : List UInt8) : DiskV × SlV3 × Int :=
  if 512 < load.length ∨ s.number = 9223372036854775807 then (D, s, 3)
  else if (saveA D (if s.now = 0 then fr else fl) (if s.now = 0 then mr else ml) (s.number + 1) load).2 ≠ 0 then ((saveA D (if s.now = 0 then fr else fl) (if s.now = 0 then mr else ml) (s.number + 1) load).1, s, (saveA D (if s.now = 0 then fr else fl) (if s.now = 0 then mr else ml) (s.number + 1) load).2)
  else ((saveA D (if s.now = 0 then fr else fl) (if s.now = 0 then mr else ml) (s.number + 1) load).1, ⟨if s.now = 0 then 1 else 0, s.number + 1, load⟩, 0)
end Go.Proofs.Ytalmdccgpigppaa
namespace Go.Proofs.Ytalmdccgpigppaa
open Go.RowKit
set_option linter.unusedVariables false
set_option linter.unusedSimpArgs false
theorem writeV_many (D : DiskV) (n : Int) (b : List UInt8) : (writeV D n b).1.many = D.many ∧ (writeV D n b).1.waits.length ≤ D.waits.length + 1 := by
  unfold writeV
  split
  · exact ⟨rfl, by simp⟩
  · split
    · exact ⟨rfl, by simp⟩
    · exact ⟨rfl, by simp [goesV, putD]⟩
theorem aWriteV_many (D : DiskV) (f m : Nat) (n : Int) (b : List UInt8) : (aWriteV D f m n b).1.many = D.many ∧ (aWriteV D f m n b).1.waits.length ≤ D.waits.length + 1 := by
  unfold aWriteV
  split
  · exact ⟨rfl, by simp⟩
  · exact writeV_many _ _ _
/-- Sectors are wiped, one behind the other, till one is not. -/
def wipeK (D : DiskV) (f m : Nat) : List Int → DiskV × Int
  | [] => (D, 0)
  | n :: l => if (aWriteV D f m n zerosL).2 ≠ 0 then aWriteV D f m n zerosL else wipeK (aWriteV D f m n zerosL).1 f m l
def jWipe (D : DiskV) (f m : Nat) (kind : Int) : DiskV × Int := wipeK (rdK D m) f m (scanK D.now f kind m).2.2
def jOpenV (D : DiskV) (f m : Nat) (kind : Int) : DiskV × Nat × Int :=
  if kind < 1 ∨ 255 < kind then (D, 0, 2)
  else if D.off = true then (D, 0, 50)
  else if (jWipe D f m kind).2 ≠ 0 then ((jWipe D f m kind).1, 0, (jWipe D f m kind).2)
  else if (scanK D.now f kind m).2.2 = [] then ((jWipe D f m kind).1, (scanK D.now f kind m).2.1, 0)
  else if (flushV (jWipe D f m kind).1).2 ≠ 0 then ((flushV (jWipe D f m kind).1).1, 0, (flushV (jWipe D f m kind).1).2)
  else ((flushV (jWipe D f m kind).1).1, (scanK D.now f kind m).2.1, 0)
def OpPost (w : World) (base ga : Nat) (kind : Int) (p : DiskP) (R : DiskV × Nat × Int) (e : Ending) (w' : World) : Prop :=
  ∃ P, e = .returned (.tuple #[.pointer P, .int .i64 R.2.2]) ∧ (R.2.2 ≠ 0 → P = none) ∧ (R.2.2 = 0 → ∃ gj, P = some ⟨gj, 0, none⟩ ∧ w.heap.size ≤ gj ∧ JrnAt w' gj ga kind R.2.1) ∧ DiskS w' base p R.1 ∧ Step mutD base p w w'
theorem OpPost.no {w w' : World} {base ga : Nat} {kind z : Int} {p : DiskP} {D : DiskV} (hz : z ≠ 0) (hd : DiskS w' base p D) (hs : Step mutD base p w w') : OpPost w base ga kind p (D, 0, z) (.returned (.tuple #[.pointer none, .int .i64 z])) w' :=
  ⟨none, rfl, fun _ => rfl, fun e => absurd e hz, hd, hs⟩
theorem OpPost.yes {w w' : World} {base ga gj next : Nat} {kind : Int} {p : DiskP} {D : DiskV} (hg : w.heap.size ≤ gj) (hj : JrnAt w' gj ga kind next) (hd : DiskS w' base p D) (hs : Step mutD base p w w') : OpPost w base ga kind p (D, next, 0) (.returned (.tuple #[.pointer (some ⟨gj, 0, none⟩), .int .i64 0])) w' :=
  ⟨_, rfl, fun e => absurd rfl e, fun _ => ⟨gj, rfl, hg, hj⟩, hd, hs⟩
section
variable {w w' : World} {base ga f m : Nat} {kind : Int} {p : DiskP} {D : DiskV}
theorem wipeK_step {D : DiskV} {f m : Nat} {n : Int} {l : List Int} (h : (aWriteV D f m n zerosL).2 = 0) : wipeK D f m (n :: l) = wipeK (aWriteV D f m n zerosL).1 f m l := by
  show (if (aWriteV D f m n zerosL).2 ≠ 0 then _ else _) = _
  rw [if_neg (by omega)]
theorem wipeK_stop {D : DiskV} {f m : Nat} {n : Int} {l : List Int} (h : (aWriteV D f m n zerosL).2 ≠ 0) : wipeK D f m (n :: l) = aWriteV D f m n zerosL := by
  show (if (aWriteV D f m n zerosL).2 ≠ 0 then _ else _) = _
  rw [if_pos h]
end
end Go.Proofs.Ytalmdccgpigppaa
