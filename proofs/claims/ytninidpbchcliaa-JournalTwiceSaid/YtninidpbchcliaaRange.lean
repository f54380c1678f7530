/- Ranges of cells: blocks known whole, loaded and stored by pieces in regions that draw their order. -/
import Derived.Test.YtninidpbchcliaaKeep
import Derived.Deep.RegionHeld3
namespace Go.Proofs.Ytninidpbchcliaa
open Go.RowKit
section
variable {w w' : World} {g : Nat} {t : TypeId} {cs xs : List Value}
theorem Blk.range (h : Blk w g t cs) {o n : Nat} (hx : (cs.drop o).take n = xs) : w.rangeAt g o xs := by
  intro j v hv
  rw [h.cell, ← List.getElem?_drop]
  have hj : j < xs.length := by
    rcases Nat.lt_or_ge j xs.length with h1 | h1
    · exact h1
    · rw [List.getElem?_eq_none h1] at hv; cases hv
  have hn : j < n := by rw [← hx, List.length_take] at hj; omega
  rw [← hx, List.getElem?_take, if_pos hn] at hv
  exact hv
theorem Blk.there (h : Blk w g t cs) (off n : Nat) (hn : off + n ≤ cs.length) : w.there g off n := fun j hj => by
  rw [h.cell, List.getElem?_eq_getElem (by omega)]
  exact ⟨rfl, h.frozen _⟩
theorem Blk.setCellsFar {b : Nat} (hne : g ≠ b) : ∀ (xs : List Value) (o : Nat) (w : World), Blk w g t cs → Blk (w.setCells b o xs) g t cs := by
  intro xs
  induction xs with
  | nil => intro o w h; exact h
  | cons x xs ih => intro o w h; exact ih (o + 1) _ (h.far (p := ⟨b, o, none⟩) hne x)
theorem splice_cons {α : Type} (l : List α) (o : Nat) (x : α) (xs : List α) (h : o + xs.length + 1 ≤ l.length) : splice (l.set o x) (o + 1) xs = splice l o (x :: xs) := by
  unfold splice
  have ho : o < l.length := by omega
  rw [List.take_succ_eq_append_getElem (by rw [List.length_set]; exact ho), List.take_set_of_le (Nat.le_refl _), List.getElem_set_self, List.drop_set_of_lt (by omega)]
  simp [Nat.add_assoc, Nat.add_comm 1]
theorem Blk.setCells : ∀ (xs : List Value) (o : Nat) (w : World) (cs : List Value), Blk w g t cs → o + xs.length ≤ cs.length → Blk (w.setCells g o xs) g t (splice cs o xs) := by
  intro xs
  induction xs with
  | nil => intro o w cs h hl; have e : splice cs o ([] : List Value) = cs := by simp [splice]
           rw [e]; exact h
  | cons x xs ih =>
    intro o w cs h hl
    have h1 := ih (o + 1) _ _ (h.set_ o x) (by rw [List.length_set]; simp at hl; omega)
    rw [splice_cons _ _ _ _ (by simp at hl; omega)] at h1
    exact h1
theorem grown_setCells (g : Nat) : ∀ (xs : List Value) (o : Nat) (w : World), w.grownBy (w.setCells g o xs) (some g) := by
  intro xs
  induction xs with
  | nil => intro o w; exact World.grownBy.refl _ _
  | cons x xs ih =>
    intro o w
    have h1 := grown_setCell (w := w) (g := g) (k := o) x
    have h2 := ih (o + 1) (w.setCell ⟨g, o, none⟩ x)
    exact ⟨h2.os.trans h1.os, h2.tape.trans h1.tape, h2.output.trans h1.output, Nat.le_trans h1.size h2.size, fun k hk hn => (h2.block k (Nat.lt_of_lt_of_le hk h1.size) hn).trans (h1.block k hk hn)⟩
theorem size_setCells (g : Nat) : ∀ (xs : List Value) (o : Nat) (w : World), (w.setCells g o xs).heap.size = w.heap.size := by
  intro xs
  induction xs with
  | nil => intro o w; rfl
  | cons x xs ih => intro o w; rw [World.setCells, ih]; simp [World.setCell]
theorem Keep.drewD {F : Nat → Prop} (h : Keep F w w') : Keep F w w'.drew := ⟨h.os, h.tape, h.output, h.size, h.block⟩
theorem Keep.setCells {F : Nat → Prop} (k : Keep F w w') (hF : F g) (o : Nat) (xs : List Value) : Keep F w (w'.setCells g o xs) :=
  k.trans (G := (· = g)) (Keep.one (grown_setCells g xs o w')) (fun x _ e => by rw [e]; exact hF)
end
end Go.Proofs.Ytninidpbchcliaa
