/- Parts: DiskO, JrnD. -/
import Derived.Test.YtpmkpckldnnigaaGreatPr25
import Derived.Test.YtpmkpckldnnigaaGreatPr21
import Derived.Test.YtpmkpckldnnigaaGreatPr19
import Derived.Test.YtpmkpckldnnigaaGreatPr24
import Derived.Test.YtpmkpckldnnigaaGreatPr01
namespace Go.Proofs.YtpmkpckldnnigaaGreat
open Go.RowKit
set_option linter.unusedVariables false
set_option linter.unusedSimpArgs false
end Go.Proofs.YtpmkpckldnnigaaGreat
namespace Go.Proofs.YtpmkpckldnnigaaGreat
open Go.RowKit
set_option linter.unusedVariables false
set_option linter.unusedSimpArgs false
section
variable {w w' : World} {base ga gj f m next : Nat} {kind : Int} {p : DiskP} {D : DiskV}
theorem JrnAt.alloc (h : JrnAt w gj ga kind next) (o : Obj) : JrnAt (w.alloc o) gj ga kind next := Blk.alloc h o
theorem AreaAt.alloc {d : Nat} (h : AreaAt w ga d f m) (o : Obj) : AreaAt (w.alloc o) ga d f m := Blk.alloc h o
theorem JrnAt.below (h : JrnAt w gj ga kind next) (hb : Below w.heap.size w w') : JrnAt w' gj ga kind next := Blk.below h hb h.lt
theorem DiskS.alloc (h : DiskS w base p D) (o : Obj) : DiskS (w.alloc o) base p D := h.below ((Below.refl _ _).alloc (Nat.le_refl _) o)
end
end Go.Proofs.YtpmkpckldnnigaaGreat
namespace Go.Proofs.YtpmkpckldnnigaaGreat
open Go.RowKit
set_option linter.unusedVariables false
set_option linter.unusedSimpArgs false
structure SlV where
  a : Option Addr
  n : Nat
  c : Nat
def slV (h : SlV) : Value := .slice h.a h.n h.c
/-- A slice of slices of bytes that reads as a list of lists. -/
def LsRd (w : World) (B : Option Addr) (N : Nat) (Ls : List (List UInt8)) : Prop := Ls.length = N ∧ ∃ hs : List SlV, Rd slV w B N hs ∧ ∀ (k : Nat) (h : SlV) (L : List UInt8), hs[k]? = some h → Ls[k]? = some L → RB w h.a h.n L ∧ h.n ≤ maxLen
def LsOw (w : World) (b : Nat) (B : Option Addr) (N c : Nat) (Ls : List (List UInt8)) : Prop := Ls.length = N ∧ ∃ hs : List SlV, Ow slV w b 22 B N c hs ∧ ∀ (k : Nat) (h : SlV) (L : List UInt8), hs[k]? = some h → Ls[k]? = some L → ∃ b', OB w b' 5 h.a h.n h.c L
section
variable {w w' : World} {b N c n : Nat} {B : Option Addr} {Ls : List (List UInt8)}
theorem LsOw.rd (h : LsOw w b B N c Ls) : LsRd w B N Ls := by
  obtain ⟨hl, hs, ho, hk⟩ := h
  refine ⟨hl, hs, ho.rd, fun k x L h1 h2 => ?_⟩
  obtain ⟨b', hb⟩ := hk k x L h1 h2
  have := hb.cap
  exact ⟨hb.rd.rb, by omega⟩
theorem LsRd.below {B0 : Nat} (h : LsRd w B N Ls) (hb : Below B0 w w') (hB : w.heap.size ≤ B0) : LsRd w' B N Ls := by
  obtain ⟨hl, hs, ho, hk⟩ := h
  exact ⟨hl, hs, ho.below hb hB, fun k x L h1 h2 => ⟨(hk k x L h1 h2).1.below hb hB, (hk k x L h1 h2).2⟩⟩
theorem LsOw.below (h : LsOw w b B N c Ls) (hb : Below w.heap.size w w') : LsOw w' b B N c Ls := by
  obtain ⟨hl, hs, ho, hk⟩ := h
  exact ⟨hl, hs, ho.below hb (Nat.le_refl _), fun k x L h1 h2 => by obtain ⟨b', q⟩ := hk k x L h1 h2; exact ⟨b', q.below hb (Nat.le_refl _)⟩⟩
theorem LsOw.touch {M : List TypeId} {base : Nat} {p : DiskP} {D : DiskV} (h : LsOw w b B N c Ls) (hd : DiskS w base p D) (k : Touch M p w w') (h1 : 22 ∉ 4 :: M) (h2 : 5 ∉ 4 :: M) : LsOw w' b B N c Ls := by
  obtain ⟨hl, hs, ho, hk⟩ := h
  exact ⟨hl, hs, hd.ow ho k h1, fun k' x L q1 q2 => by obtain ⟨b', q⟩ := hk k' x L q1 q2; exact ⟨b', hd.ow q k h2⟩⟩
theorem LsOw.rebase {b0 : Nat} (h : LsOw w b B N c Ls) (hb : b0 ≤ b) : LsOw w b0 B N c Ls := by
  obtain ⟨hl, hs, ho, hk⟩ := h
  exact ⟨hl, hs, ho.rebase hb, hk⟩
theorem LsOw.nil (w : World) (b : Nat) : LsOw w b none 0 0 [] := ⟨rfl, [], Ow.nil _ _ _ _, fun k h L h1 => by simp at h1⟩
end
section
variable {w w' : World} {base ga gj f m next : Nat} {kind : Int} {p : DiskP} {D : DiskV}
end
end Go.Proofs.YtpmkpckldnnigaaGreat
