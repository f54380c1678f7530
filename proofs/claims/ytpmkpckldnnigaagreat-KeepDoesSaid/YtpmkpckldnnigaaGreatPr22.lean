/- Parts: JrnA, JrnB. -/
import Derived.Test.YtpmkpckldnnigaaGreatPr21
import Derived.Deep.RegionHeld3
namespace Go.Proofs.YtpmkpckldnnigaaGreat
open Go.RowKit
set_option linter.unusedVariables false
set_option linter.unusedSimpArgs false
def jrnC (ga : Nat) (kind : Int) (next : Nat) : List Value := [.pointer (some ⟨ga, 0, none⟩), .int .i64 kind, .int .i64 (next : Int)]
def JrnAt (w : World) (gj ga : Nat) (kind : Int) (next : Nat) : Prop := Blk w gj 322 (jrnC ga kind next)
def jAddV (D : DiskV) (f m : Nat) (kind : Int) (next : Nat) (l : List UInt8) : DiskV × Nat × Int × Int :=
  if 113 < l.length then (D, next, 0, 3) else if m = next then (D, next, 0, 52)
  else if (aPutV D f m next kind next l).2 ≠ 0 then ((aPutV D f m next kind next l).1, next, 0, (aPutV D f m next kind next l).2)
  else ((aPutV D f m next kind next l).1, next + 1, (next : Int), 0)
section
variable {w w' : World} {base ga gj f m next : Nat} {kind : Int} {p : DiskP} {D : DiskV}
theorem DiskS.drew (h : DiskS w base p D) : DiskS w.drew base p D := by
  obtain ⟨A, c, h⟩ := h; exact ⟨A, c, h.drewN 1⟩
end
end Go.Proofs.YtpmkpckldnnigaaGreat
namespace Go.Proofs.YtpmkpckldnnigaaGreat
open Go.RowKit
set_option linter.unusedVariables false
set_option linter.unusedSimpArgs false
theorem DiskS.grown {α : Type} {enc : α → Value} {w w' : World} {base b n c : Nat} {e : TypeId} {B : Option Addr} {p : DiskP} {D : DiskV} {l : List α} (h : DiskS w base p D) (ho : Ow enc w b e B n c l) (hg : w.grownBy w' (B.map (·.block))) (ht : e ∉ 4 :: mutD) : DiskS w' base p D := by
  obtain ⟨A, a, h⟩ := h
  refine ⟨A, a, h.keep (F := fun g => B.map (·.block) = some g) (Keep.of_grown hg (fun g e => e)) (fun g hf he => ?_)⟩
  rcases ho.2.2 with ⟨hv, _⟩ | ⟨g', cap, cur, hv, _, hh, _⟩
  · injection hv with hv; subst hv; cases he
  · injection hv with hv
    subst hv
    simp only [Option.map_some, Option.some.injEq] at he
    subst he
    rcases h.foot_ty (t := e) (cs := cur.toList) (by unfold Blk; rw [hh]) hf with q | q | q | q | q
    all_goals exact ht (by rw [q]; decide)
def rdK (D : DiskV) : Nat → DiskV
  | 0 => D
  | k + 1 => readV' (rdK D k)
theorem rdK_ops (D : DiskV) : ∀ k, ∃ o, rdK D k = { D with ops := o } := by
  intro k
  induction k with
  | zero => exact ⟨D.ops, rfl⟩
  | succ k ih => obtain ⟨o, e⟩ := ih; exact ⟨mAdd o 1 1, by show readV' (rdK D k) = _; rw [e]; rfl⟩
/-- What is a record, so far; how many; which sectors behind them are not blank. -/
def recB (S : List UInt8) (kind : Int) (k : Nat) : Bool := opens S kind && decide (sg (openNum S) = (k : Int))
def scanK (now : List UInt8) (f : Nat) (kind : Int) : Nat → Bool × Nat × List Int
  | 0 => (true, 0, [])
  | k + 1 =>
    if (scanK now f kind k).1 = true ∧ recB (secOf now ((f + k : Nat) : Int)) kind k = true then (true, (scanK now f kind k).2.1 + 1, (scanK now f kind k).2.2)
    else (false, (scanK now f kind k).2.1, if secOf now ((f + k : Nat) : Int) = zerosL then (scanK now f kind k).2.2 else (scanK now f kind k).2.2 ++ [(k : Int)])
theorem scanK_le (now : List UInt8) (f : Nat) (kind : Int) : ∀ k, (scanK now f kind k).2.1 ≤ k ∧ (scanK now f kind k).2.2.length ≤ k := by
  intro k
  induction k with
  | zero => exact ⟨Nat.le_refl _, Nat.le_refl _⟩
  | succ k ih =>
    unfold scanK
    split
    · simp only; omega
    · simp only
      split
      · omega
      · rw [List.length_append, List.length_singleton]; omega
section
variable {w w' : World} {base ga gj f m : Nat} {kind : Int} {p : DiskP} {D : DiskV}
theorem onRead {D : DiskV} (h : D.off = false) {f m k : Nat} (hfm : f + m ≤ D.many) (hk : k < m) : aReadV D f m (k : Int) = (readV' D, secOf D.now ((f + k : Nat) : Int), 0) := by
  unfold aReadV readV
  have hm : mayV D ((f : Int) + k) = 0 := by unfold mayV; rw [h]; simp; omega
  rw [if_neg (by omega), hm, if_neg (by simp)]
  rw [show ((f : Int) + (k : Int)) = ((f + k : Nat) : Int) by omega]
end
end Go.Proofs.YtpmkpckldnnigaaGreat
