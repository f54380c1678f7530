/- Parts: VerifyB, CodeG, CodeH, CodeI, VerifyC. -/
import Derived.Test.YtpmkpckldnnigaaGreatPr45
import Derived.Deep.DeepCutAuto
import Derived.Deep.CutBlock
import Derived.Test.YtpmkpckldnnigaaGreatPr03
import Derived.Test.YtpmkpckldnnigaaGreatPr05
import Derived.Lib.AppendZerosOnto
import Derived.Lib.AppendZeros
import Derived.Test.YtpmkpckldnnigaaGreatPr04
import Derived.Deep.RegionHeld3
namespace Go.Proofs.YtpmkpckldnnigaaGreat
open Go.RowKit
set_option linter.unusedVariables false
set_option linter.unusedSimpArgs false
section
variable {w w' : World} {base g : Nat} {x : PA} {p : PV} {s s' : LkV}
theorem LkAt.below (h : LkAt w base g x p s) (hb : Below w.heap.size w w') : LkAt w' base g x p s := by
  obtain ⟨K, nk, ck, O, no, co, b, hg, hk, ho⟩ := h
  exact ⟨K, nk, ck, O, no, co, b.below hb b.lt, hg, hk.below hb (Nat.le_refl _), ho.below hb (Nat.le_refl _)⟩
theorem LkAt.cells (h : LkAt w base g x p s) : w.cell? ⟨g, 0, none⟩ = some (.slice x.A1 x.n1 x.c1) ∧ w.cell? ⟨g, 1, none⟩ = some (.slice x.A2 x.n2 x.c2) ∧ w.cell? ⟨g, 3, none⟩ = some (.slice x.A3 x.n3 x.c3) ∧ w.cell? ⟨g, 4, none⟩ = some (.slice x.A4 x.n4 x.c4) ∧ w.cell? ⟨g, 7, none⟩ = some (.int .i64 s.past) ∧ w.cell? ⟨g, 8, none⟩ = some (.bool s.bad) ∧ (∀ i, w.frozen? ⟨g, i, none⟩ = false) ∧ g < w.heap.size := by
  obtain ⟨K, nk, ck, O, no, co, b, hg, hk, ho⟩ := h
  exact ⟨b.cell 0, b.cell 1, b.cell 3, b.cell 4, b.cell 7, b.cell 8, fun i => b.frozen i, b.lt⟩
def boxI (w : World) (y : Ins) : World := w.alloc (.cells #[.int .i64 y.op, .int .i64 y.a, .int .i64 y.b, .int .i64 y.c, .int .i64 y.k] 133)
def InsBlk (w : World) (b : Nat) (y : Ins) : Prop := Blk w b 133 (insE y)
theorem boxI_blk (w : World) (y : Ins) : InsBlk (boxI w y) w.heap.size y := Blk.top _ rfl rfl
theorem boxI_below (w : World) (y : Ins) : Below w.heap.size w (boxI w y) := (Below.refl _ _).alloc (Nat.le_refl _) _
theorem InsBlk.cells {b : Nat} {y : Ins} (h : InsBlk w b y) : w.cell? ⟨b, 0, none⟩ = some (.int .i64 y.op) ∧ w.cell? ⟨b, 1, none⟩ = some (.int .i64 y.a) ∧ w.cell? ⟨b, 2, none⟩ = some (.int .i64 y.b) ∧ w.cell? ⟨b, 3, none⟩ = some (.int .i64 y.c) ∧ w.cell? ⟨b, 4, none⟩ = some (.int .i64 y.k) ∧ b < w.heap.size :=
  ⟨Blk.cell h 0, Blk.cell h 1, Blk.cell h 2, Blk.cell h 3, Blk.cell h 4, Blk.lt h⟩
theorem InsBlk.stay {b : Nat} {y : Ins} (h : InsBlk w b y) (t : Stay w w') : InsBlk w' b y := t _ _ _ (by decide) h
/-- What lies in memory while an instruction is looked at. -/
structure LkS (w0 : World) (base g : Nat) (x : PA) (p : PV) (y : Ins) (b : Nat) (s : LkV) (w : World) : Prop where
  lk : LkAt w base g x p s
  ib : InsBlk w b y
  bel : Below base w0 w
  st : Stay w0 w
theorem LkS.first (h : LkAt w base g x p s) (hs : base ≤ w.heap.size) (y : Ins) : LkS w base g x p y w.heap.size s (boxI w y) :=
  ⟨h.below (boxI_below w y), boxI_blk w y, (boxI_below w y).mono hs, Stay.of_below (boxI_below w y)⟩
theorem LkS.next {w0 w1 w2 : World} {y : Ins} {b : Nat} {v : Option Int} {e : Ending} (h : LkS w0 base g x p y b s w1) (k : LkPost w1 base g x p s' v e w2) : LkS w0 base g x p y b s' w2 :=
  ⟨k.2.1, h.ib.stay k.2.2.2, h.bel.trans k.2.2.1, h.st.trans k.2.2.2⟩
theorem LkS.drew {w0 w1 : World} {y : Ins} {b : Nat} (h : LkS w0 base g x p y b s w1) : LkS w0 base g x p y b s w1.drew :=
  ⟨h.lk.below (Below.drew (Below.refl _ _)), h.ib, h.bel.trans (Below.drew (Below.refl _ _)), h.st.trans (Stay.of_below (Below.drew (Below.refl _ _)))⟩
theorem LkS.done {w0 w1 : World} {y : Ins} {b : Nat} (h : LkS w0 base g x p y b s w1) : LkPost w0 base g x p s none (.returned (.tuple #[])) w1 := ⟨rfl, h.lk, h.bel, h.st⟩
theorem LkPost.as {v : Option Int} {e : Ending} {s1 s2 : LkV} (h : LkPost w base g x p s1 v e w') (q : s1 = s2) : LkPost w base g x p s2 v e w' := q ▸ h
theorem LkS.size {w0 w1 : World} {y : Ins} {b : Nat} (h : LkS w0 base g x p y b s w1) : w0.heap.size ≤ w1.heap.size := h.bel.size
end
end Go.Proofs.YtpmkpckldnnigaaGreat
namespace Go.Proofs.YtpmkpckldnnigaaGreat
open Go.RowKit

end Go.Proofs.YtpmkpckldnnigaaGreat
namespace Go.Proofs.YtpmkpckldnnigaaGreat
open Go.RowKit

end Go.Proofs.YtpmkpckldnnigaaGreat
namespace Go.Proofs.YtpmkpckldnnigaaGreat
open Go.RowKit

structure ProgWf (p : PV) : Prop where
  cells : ∀ x ∈ p.cells, -9223372036854775808 ≤ x.2 ∧ x.2 ≤ 9223372036854775807
  code : ∀ x ∈ p.code, x.a ≤ 9223372036854775807 ∧ x.b ≤ 9223372036854775807 ∧ x.c ≤ 9223372036854775807 ∧ -9223372036854775808 ≤ x.k ∧ x.k ≤ 9223372036854775807
end Go.Proofs.YtpmkpckldnnigaaGreat
namespace Go.Proofs.YtpmkpckldnnigaaGreat
open Go.RowKit
set_option linter.unusedVariables false
set_option linter.unusedSimpArgs false
section
variable {w w' : World} {base g : Nat} {x : PA} {p : PV} {s s' : LkV}
/-- The program is older than the looker. -/
def Olds (w : World) (base : Nat) (x : PA) (p : PV) : Prop := ∃ w0, ProgRd w0 x p ∧ w0.heap.size ≤ base ∧ Below base w0 w
theorem Olds.rd (h : Olds w base x p) (hb : Below base w w') : ProgRd w' x p := by
  obtain ⟨w0, h1, h2, h3⟩ := h
  exact h1.below (h3.trans hb) h2
end
end Go.Proofs.YtpmkpckldnnigaaGreat
