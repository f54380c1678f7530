/- What a call may have turned: blocks that a word tells, and new ones. -/
import Derived.Test.YtninidpbchcliaaBlk
namespace Go.Proofs.Ytninidpbchcliaa
open Go.RowKit

structure Keep (F : Nat → Prop) (w w' : World) : Prop where
  os : w'.os = w.os
  tape : w'.tape = w.tape
  output : w'.output = w.output
  size : w.heap.size ≤ w'.heap.size
  block : ∀ k, k < w.heap.size → ¬ F k → w'.heap[k]? = w.heap[k]?
section
variable {F G : Nat → Prop} {w w' w'' : World} {B : Nat}
theorem Keep.refl (F : Nat → Prop) (w : World) : Keep F w w := ⟨rfl, rfl, rfl, Nat.le_refl _, fun _ _ _ => rfl⟩
theorem Keep.trans (h : Keep F w w') (k : Keep G w' w'') (hG : ∀ g, g < w.heap.size → G g → F g) : Keep F w w'' :=
  ⟨k.os.trans h.os, k.tape.trans h.tape, k.output.trans h.output, Nat.le_trans h.size k.size, fun g hg hn =>
    (k.block g (Nat.lt_of_lt_of_le hg h.size) (fun e => hn (hG g hg e))).trans (h.block g hg hn)⟩
theorem Keep.of_below (h : Below w.heap.size w w') : Keep F w w' := ⟨h.os, h.tape, h.output, h.size, fun k hk _ => h.block k hk⟩
theorem Keep.of_grown {row : Option Nat} (h : w.grownBy w' row) (hF : ∀ g, row = some g → F g) : Keep F w w' :=
  ⟨h.os, h.tape, h.output, h.size, fun k hk hn => h.block k hk (fun e => hn (hF k e.symm))⟩
theorem Keep.drewN (h : Keep F w w') (n : Nat) : Keep F w (w'.drewN n) := ⟨h.os, h.tape, h.output, h.size, h.block⟩
theorem Keep.of_drew (h : Keep F w.drew w') : Keep F w w' := ⟨h.os, h.tape, h.output, h.size, h.block⟩
theorem Keep.set_ (k : Keep F w w') {g i : Nat} (u : Value) (hF : F g) : Keep F w (w'.setCell ⟨g, i, none⟩ u) :=
  k.trans (G := (· = g)) (Keep.of_grown (grown_setCell u) (fun x e => by injection e with e; exact e.symm)) (fun x _ e => by rw [e]; exact hF)
theorem Keep.one {g : Nat} (h : w.grownBy w' (some g)) : Keep (· = g) w w' := Keep.of_grown h (fun x e => by injection e with e; exact e.symm)
theorem Keep.alloc (k : Keep F w w') (o : Obj) : Keep F w (w'.alloc o) := k.trans (G := fun _ => False) (Keep.of_below ((Below.refl _ _).alloc (Nat.le_refl _) o)) (fun _ _ e => e.elim)
theorem Keep.then_grown (k : Keep F w w') {row : Option Nat} (h : w'.grownBy w'' row) (hF : ∀ g, row = some g → F g) : Keep F w w'' := k.trans (G := F) (Keep.of_grown h hF) (fun _ _ e => e)
theorem Keep.then_below (k : Keep F w w') (h : Below w'.heap.size w' w'') : Keep F w w'' := k.trans (G := F) (Keep.of_below h) (fun _ _ e => e)
theorem Keep.below (h : Keep F w w') (hF : ∀ g, F g → B ≤ g) (hB : B ≤ w.heap.size) : Below B w w' :=
  ⟨h.os, h.tape, h.output, h.size, fun k hk => h.block k (by omega) (fun e => by have := hF k e; omega)⟩
theorem Keep.mono (h : Keep F w w') (hG : ∀ g, g < w.heap.size → F g → G g) : Keep G w w' := ⟨h.os, h.tape, h.output, h.size, fun k hk hn => h.block k hk (fun e => hn (hG k hk e))⟩
theorem Blk.keep {g : Nat} {t : TypeId} {cs : List Value} (h : Blk w g t cs) (k : Keep F w w') (hn : ¬ F g) : Blk w' g t cs := (k.block g h.lt hn).trans h
theorem own_ne {base : Nat} {e t : TypeId} {size n g : Nat} {v : Value} {xs cs : List Value} (h : w.ownsRow base e size v n xs) (hg : Blk w g t cs) (hne : e ≠ t) : v.ownBlock ≠ some g := by
  rcases h.2 with ⟨rfl, _⟩ | ⟨g', cap, cur, rfl, _, hh, _⟩
  · simp [Value.ownBlock]
  · intro he
    have e1 : g' = g := by simpa [Value.ownBlock] using he
    subst e1
    unfold Blk at hg
    rw [hh] at hg
    injection hg with hg
    injection hg with _ ht
    exact hne ht
theorem own_keep {base : Nat} {e : TypeId} {size n : Nat} {v : Value} {xs : List Value} (h : w.ownsRow base e size v n xs) (k : Keep F w w') (hn : ∀ g, v.ownBlock = some g → ¬ F g) : w'.ownsRow base e size v n xs := by
  refine ⟨h.1, ?_⟩
  rcases h.2 with h0 | ⟨g, cap, cur, hv, hb, hg, rest⟩
  · exact .inl h0
  · exact .inr ⟨g, cap, cur, hv, hb, (k.block g (lt_of_block hg) (hn g (by rw [hv]; rfl))).trans hg, rest⟩
end
section
variable {α : Type} {enc : α → Value} {w : World} {base n c g : Nat} {e t : TypeId} {A : Option Addr} {l : List α} {cs : List Value}
theorem Ow.ne_ (h : Ow enc w base e A n c l) (hg : Blk w g t cs) (hne : e ≠ t) : A.map (·.block) ≠ some g := fun e => own_ne h.2 hg hne (by cases A with | none => cases e | some a => simpa [Value.ownBlock] using e)
theorem Ow.setFar (h : Ow enc w base e A n c l) (hg : Blk w g t cs) (hne : e ≠ t) (i : Nat) (u : Value) : Ow enc (w.setCell ⟨g, i, none⟩ u) base e A n c l :=
  ⟨h.1, own_keep (F := (· = g)) h.2 (Keep.of_grown (grown_setCell u) (fun x e => by injection e with e; exact e.symm)) (fun x hx e => own_ne h.2 hg hne (by subst e; exact hx))⟩
end
end Go.Proofs.Ytninidpbchcliaa
