/- Parts: AreaA, AreaB, DiskK, AreaC. -/
import Derived.Test.YtpmkpckldnnigaaGreatPr19
import Derived.Test.YtpmkpckldnnigaaGreatPr17
namespace Go.Proofs.YtpmkpckldnnigaaGreat
open Go.RowKit
set_option linter.unusedVariables false
set_option linter.unusedSimpArgs false

def AreaAt (w : World) (ga d f m : Nat) : Prop := Blk w ga 217 [.pointer (some ⟨d, 0, none⟩), .int .i64 (f : Int), .int .i64 (m : Int)]
/-- What a sector of a disk has; the error. -/
def readV (D : DiskV) (n : Int) : DiskV × List UInt8 × Int := if mayV D n ≠ 0 then (D, zerosL, mayV D n) else (readV' D, secOf D.now n, 0)
section
variable {w w' : World} {base ga f m : Nat} {p : DiskP} {A : Option Addr} {c : Nat} {D : DiskV}
theorem AreaAt.below {d : Nat} (h : AreaAt w ga d f m) (hb : Below w.heap.size w w') : AreaAt w' ga d f m := Blk.below h hb h.lt
theorem AreaAt.keep {d : Nat} {F : Nat → Prop} (h : AreaAt w ga d f m) (k : Keep F w w') (hF : ¬ F ga) : AreaAt w' ga d f m := Blk.keep h k hF
theorem AreaAt.notFoot {d : Nat} (h : AreaAt w ga d f m) (hd : DiskAt w base p A c D) : ¬ foot p A ga := fun e => by
  rcases hd.foot_ty h e with q | q | q | q | q <;> exact absurd q (by decide)
theorem AreaAt.spares {d : Nat} (h : AreaAt w ga d f m) (hd : DiskAt w base p A c D) (k : Keep (foot p A) w w') : AreaAt w' ga d f m := h.keep k (h.notFoot hd)
/-! 'at' within the area: what the closure does at the disk's sector. -/
end
end Go.Proofs.YtpmkpckldnnigaaGreat
namespace Go.Proofs.YtpmkpckldnnigaaGreat
open Go.RowKit
set_option linter.unusedVariables false
set_option linter.unusedSimpArgs false
def aReadV (D : DiskV) (f m : Nat) (n : Int) : DiskV × List UInt8 × Int := if n < 0 ∨ (m : Int) ≤ n then (D, zerosL, 51) else readV D ((f : Int) + n)
def aWriteV (D : DiskV) (f m : Nat) (n : Int) (b : List UInt8) : DiskV × Int := if n < 0 ∨ (m : Int) ≤ n then (D, 51) else writeV D ((f : Int) + n) b
section
variable {w w' : World} {base ga f m : Nat} {p : DiskP} {A : Option Addr} {c : Nat} {D : DiskV}
end
end Go.Proofs.YtpmkpckldnnigaaGreat
namespace Go.Proofs.YtpmkpckldnnigaaGreat
open Go.RowKit
set_option linter.unusedVariables false
set_option linter.unusedSimpArgs false
section
variable {w : World} {d : Option Addr}
theorem NoDisk.alloc (h : NoDisk w d) (o : Obj) : NoDisk (w.alloc o) d := by
  rcases h with rfl | ⟨g, rfl, h⟩
  · exact .inl rfl
  · exact .inr ⟨g, rfl, by rw [World.cell?_alloc_some _ _ _ (by rw [h]; rfl)]; exact h⟩
end
end Go.Proofs.YtpmkpckldnnigaaGreat
namespace Go.Proofs.YtpmkpckldnnigaaGreat
open Go.RowKit
set_option linter.unusedVariables false
set_option linter.unusedSimpArgs false
def aPutV (D : DiskV) (f m : Nat) (n kind number : Int) (load : List UInt8) : DiskV × Int := if (makeL kind number load).2 ≠ 0 then (D, (makeL kind number load).2) else aWriteV D f m n (makeL kind number load).1
def openV (S : List UInt8) (kind : Int) : Int × List UInt8 × Int := if opens S kind then (sg (openNum S), openLoad S, 0) else (0, [], 53)
def aTakeV (D : DiskV) (f m : Nat) (n kind : Int) : Int × List UInt8 × Int := if (aReadV D f m n).2.2 ≠ 0 then (0, [], (aReadV D f m n).2.2) else openV (aReadV D f m n).2.1 kind
section
variable {w w' : World} {base ga f m : Nat} {p : DiskP} {A : Option Addr} {c : Nat} {D D' : DiskV}
theorem DiskNext.of_below {w1 : World} (hb : Below w.heap.size w w1) (h : DiskNext w1 base p A D' w') : DiskNext w base p A D' w' := by
  obtain ⟨A', c', h1, k, n⟩ := h
  exact ⟨A', c', h1, (Keep.of_below hb).trans k (fun _ _ e => e), fun g e => by rcases n g e with q | q; exact .inl q; exact .inr (by have := hb.size; omega)⟩
end
end Go.Proofs.YtpmkpckldnnigaaGreat
