/- Parts: SlotA, PlainTurn. -/
import Derived.Test.YtpmkpckldnnigaaGreatPr23
import Derived.Test.YtpmkpckldnnigaaGreatPr27
import Derived.Test.YtpmkpckldnnigaaGreatPr03
import Derived.Deep.RegionHeld3
import Derived.Test.YtpmkpckldnnigaaGreatPr25
namespace Go.Proofs.YtpmkpckldnnigaaGreat
open Go.RowKit
set_option linter.unusedVariables false
set_option linter.unusedSimpArgs false
theorem RB.same {w w' : World} {g o n : Nat} {t : TypeId} {cs : List Value} {l : List UInt8} (h : RB w (some ⟨g, o, none⟩) n l) (hb : Blk w g t cs) (hb' : Blk w' g t cs) (hs : w.heap.size ≤ w'.heap.size) : RB w' (some ⟨g, o, none⟩) n l :=
  ⟨h.1, h.2.sameB hs (fun b e _ => by
    simp only [Option.map_some, Option.some.injEq] at e
    subst e
    exact Eq.trans hb' (Eq.symm hb))⟩
theorem RB.piece {w : World} {g o n : Nat} {l : List UInt8} (h : RB w (some ⟨g, o, none⟩) n l) (L m : Nat) (hm : L + m ≤ n) : RB w (some ⟨g, o + L, none⟩) m ((l.drop L).take m) := by
  refine ⟨by rw [List.length_take, List.length_drop, h.1]; omega, fun h0 => ?_⟩
  obtain ⟨b, o', e, hb, hc⟩ := h.2 (by omega)
  injection e with e
  injection e with e1 e2 _
  subst e1 e2
  refine ⟨_, _, rfl, hb, fun i hi => ?_⟩
  have := hc (L + i) (by omega)
  rw [Nat.add_assoc, this]
  unfold byteAt
  simp [List.getD_eq_getElem?_getD, hi]
section
variable {w w' : World} {base ga f m : Nat} {p : DiskP} {D : DiskV}
theorem sumL_len (l : List UInt8) : (sumL l).length = 4 := le4_len _
/-- What a slot's reading answers. -/
def WhPost (w : World) (base : Nat) (p : DiskP) (R : DiskV × List UInt8 × Int × Int) (e : Ending) (w' : World) : Prop :=
  ∃ B n d, e = .returned (.tuple #[.slice B n d, .int .i64 R.2.2.1, .int .i64 R.2.2.2]) ∧ n ≤ d ∧ d ≤ maxLen ∧ n ≤ 512 ∧ BytesAt w' base ⟨B, n, d⟩ R.2.1 ∧ DiskS w' base p R.1 ∧ Step mutD base p w w'
theorem WhPost.no {z : Int} (hd : DiskS w' base p D) (st : Step mutD base p w w') : WhPost w base p (D, [], 0, z) (.returned (.tuple #[.slice none 0 0, .int .i64 0, .int .i64 z])) w' :=
  ⟨none, 0, 0, rfl, Nat.le_refl _, by decide, by omega, ⟨⟨rfl, Row.nil _ _ _⟩, by decide, fun h => absurd h (by simp)⟩, hd, st⟩
end
end Go.Proofs.YtpmkpckldnnigaaGreat
namespace Go.Proofs.YtpmkpckldnnigaaGreat
open Go.RowKit
set_option linter.unusedVariables false
set_option linter.unusedSimpArgs false
theorem fillK_stop {D : DiskV} {f m i k : Nat} {load : List UInt8} (h : (aWriteV D f m ((1 + i : Nat) : Int) (padL load i)).2 ≠ 0) : fillK D f m load i (k + 1) = aWriteV D f m ((1 + i : Nat) : Int) (padL load i) := by
  show (if _ then _ else _) = _
  rw [if_pos h]
theorem fillK_go {D : DiskV} {f m i k : Nat} {load : List UInt8} (h : (aWriteV D f m ((1 + i : Nat) : Int) (padL load i)).2 = 0) : fillK D f m load i (k + 1) = fillK (aWriteV D f m ((1 + i : Nat) : Int) (padL load i)).1 f m load (i + 1) k := by
  show (if _ then _ else _) = _
  rw [if_neg (by rw [h]; simp)]
section
variable {w w' : World} {base ga f m : Nat} {p : DiskP} {D : DiskV} {A : Option Addr} {n c : Nat} {load : List UInt8}
end
end Go.Proofs.YtpmkpckldnnigaaGreat
namespace Go.Proofs.YtpmkpckldnnigaaGreat
open Go.RowKit
set_option linter.unusedVariables false
set_option linter.unusedSimpArgs false
theorem headL_len (load : List UInt8) : (headL load).length = 12 := by unfold headL; rw [List.length_append, putL_len, sumL_len]
end Go.Proofs.YtpmkpckldnnigaaGreat
