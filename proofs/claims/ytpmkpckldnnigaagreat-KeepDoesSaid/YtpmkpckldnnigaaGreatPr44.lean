/- Parts: RSlotA. -/
import Derived.Test.YtpmkpckldnnigaaGreatPr23
import Derived.Test.YtpmkpckldnnigaaGreatPr43
import Derived.Test.YtpmkpckldnnigaaGreatPr42
import Derived.Deep.DeepCutAuto
import Derived.Deep.CutBlock
import Derived.Test.YtpmkpckldnnigaaGreatPr33
namespace Go.Proofs.YtpmkpckldnnigaaGreat
open Go.RowKit
set_option linter.unusedVariables false
set_option linter.unusedSimpArgs false
section
variable {w w' : World} {base f m : Nat} {q : RDiskP} {D : DiskV}
/-- What the document's reading of a slot answers. -/
def RWPost (w : World) (base : Nat) (q : RDiskP) (R : DiskV × List UInt8 × Int × Int) (e : Ending) (w' : World) : Prop :=
  ∃ B n d N ok er, e = .returned (.tuple #[.slice B n d, .int .i64 N, .bool ok, .int .i64 er]) ∧ (R.2.2.2 = 0 → ok = true ∧ er = 0 ∧ N = R.2.2.1 ∧ n ≤ d ∧ d ≤ maxLen ∧ n ≤ 512 ∧ BytesAt w' base ⟨B, n, d⟩ R.2.1) ∧ (R.2.2.2 = 53 → ok = false ∧ er = 0) ∧ (R.2.2.2 ≠ 0 → R.2.2.2 ≠ 53 → ok = false ∧ er = R.2.2.2) ∧ RDiskS w' base q R.1 ∧ RStep base q w w'
theorem RWPost.not {B : Option Addr} {n d : Nat} {N : Int} (hd : RDiskS w' base q D) (st : RStep base q w w') : RWPost w base q (D, [], 0, 53) (.returned (.tuple #[.slice B n d, .int .i64 N, .bool false, .int .i64 0])) w' :=
  ⟨B, n, d, N, false, 0, rfl, fun e => absurd e (by simp), fun _ => ⟨rfl, rfl⟩, fun _ e => absurd rfl e, hd, st⟩
theorem RWPost.bad {z : Int} (h0 : z ≠ 0) (h53 : z ≠ 53) (hd : RDiskS w' base q D) (st : RStep base q w w') : RWPost w base q (D, [], 0, z) (.returned (.tuple #[.slice none 0 0, .int .i64 0, .bool false, .int .i64 z])) w' :=
  ⟨none, 0, 0, 0, false, z, rfl, fun e => absurd e h0, fun e => absurd e h53, fun _ _ => ⟨rfl, rfl⟩, hd, st⟩
/-- The disk behind some reads, beside rows that are new. -/
theorem RDiskAt.reads {w1 : World} {A : Option Addr} {c ck ci j : Nat} (h : RDiskAt w1 base q A c ck ci D) (h' : RDiskAt w base q A c ck ci (rdK D j)) (k : Keep (fun g => g = q.d ∨ g = q.go) w1 w') (b1 : ∀ {t : TypeId} {cs : List Value}, Blk w q.d t cs → Blk w' q.d t cs) (b2 : ∀ {t : TypeId} {cs : List Value}, Blk w q.go t cs → Blk w' q.go t cs) : RDiskAt w' base q A c ck ci (rdK D j) := by
  obtain ⟨o, eo⟩ := rdK_ops D j
  have hst := h'.st
  have hop := h'.op
  have hl := h'.ops
  rw [eo] at hst hop hl ⊢
  exact h.turnHead k (b1 hst) (b2 hop) hl h.ok.cut
end
end Go.Proofs.YtpmkpckldnnigaaGreat
namespace Go.Proofs.YtpmkpckldnnigaaGreat
open Go.RowKit
set_option linter.unusedVariables false
set_option linter.unusedSimpArgs false
def rslotC (q : RDiskP) (fl ml fr mr : Nat) (s : SlV3) (B : Option Addr) (n c : Nat) : List Value := [.pointer (some ⟨q.d, 0, none⟩), .int .i64 (fl : Nat), .int .i64 (ml : Nat), .pointer (some ⟨q.d, 0, none⟩), .int .i64 (fr : Nat), .int .i64 (mr : Nat), .int .i64 (s.now : Nat), .int .i64 s.number, .slice B n c]
def RSlotsAt (w : World) (base g : Nat) (q : RDiskP) (fl ml fr mr : Nat) (s : SlV3) : Prop := ∃ B n c, Blk w g 142 (rslotC q fl ml fr mr s B n c) ∧ n ≤ c ∧ c ≤ maxLen ∧ BytesAt w base ⟨B, n, c⟩ s.load ∧ s.now ≤ 2
section
variable {w w' : World} {base g fl ml fr mr : Nat} {q : RDiskP} {D : DiskV} {s : SlV3}
theorem RSlotsAt.below (h : RSlotsAt w base g q fl ml fr mr s) (hb : Below w.heap.size w w') : RSlotsAt w' base g q fl ml fr mr s := by
  obtain ⟨B, n, c, h1, h2, h3, h4, h5⟩ := h
  exact ⟨B, n, c, h1.below hb h1.lt, h2, h3, h4.below hb, h5⟩
theorem RSlotsAt.rstep (h : RSlotsAt w base g q fl ml fr mr s) (hd : RDiskS w base q D) (k : RStep base q w w') : RSlotsAt w' base g q fl ml fr mr s := by
  obtain ⟨B, n, c, h1, h2, h3, h4, h5⟩ := h
  exact ⟨B, n, c, hd.blk h1 k (by decide), h2, h3, h4.rstep hd k, h5⟩
/-- What the document's Open leaves. -/
def ROSPost (w : World) (base : Nat) (q : RDiskP) (fl ml fr mr : Nat) (R : DiskV × SlV3 × Int) (e : Ending) (w' : World) : Prop :=
  ∃ P, e = .returned (.tuple #[.pointer P, .int .i64 R.2.2]) ∧ (R.2.2 ≠ 0 → P = none) ∧ (R.2.2 = 0 → ∃ g, P = some ⟨g, 0, none⟩ ∧ w.heap.size ≤ g ∧ RSlotsAt w' base g q fl ml fr mr R.2.1) ∧ RDiskS w' base q R.1 ∧ RStep base q w w'
theorem ROSPost.no {z : Int} (hz : z ≠ 0) (hd : RDiskS w' base q D) (hs : RStep base q w w') : ROSPost w base q fl ml fr mr (D, s, z) (.returned (.tuple #[.pointer none, .int .i64 z])) w' :=
  ⟨none, rfl, fun _ => rfl, fun e => absurd e hz, hd, hs⟩
end
end Go.Proofs.YtpmkpckldnnigaaGreat
namespace Go.Proofs.YtpmkpckldnnigaaGreat
open Go.RowKit
set_option linter.unusedVariables false
set_option linter.unusedSimpArgs false
/-- What is known in the middle of Save. -/
structure RSv (w0 w : World) (base : Nat) (q : RDiskP) (D : DiskV) (f m g ga fl ml fr mr : Nat) (s : SlV3) (A : Option Addr) (n c : Nat) (load : List UInt8) (B0 : Option Addr) (n0 d0 : Nat) : Prop where
  disk : RDiskS w base q D
  x : Blk w g 142 (rslotC q fl ml fr mr s B0 n0 d0)
  a : Blk w ga 50 [.pointer (some ⟨q.d, 0, none⟩), .int .i64 (f : Nat), .int .i64 (m : Nat)]
  l : BytesAt w base ⟨A, n, c⟩ load
  l0 : BytesAt w base ⟨B0, n0, d0⟩ s.load
  st : RStep base q w0 w
  bs : base ≤ w0.heap.size
section
variable {w w' w0 : World} {base g ga f m fl ml fr mr : Nat} {q : RDiskP} {D D' : DiskV} {s : SlV3} {A B0 : Option Addr} {n c n0 d0 : Nat} {load : List UInt8}
theorem RSv.size (h : RSv w0 w base q D f m g ga fl ml fr mr s A n c load B0 n0 d0) : base ≤ w.heap.size := Nat.le_trans h.bs h.st.size
theorem RSv.below (h : RSv w0 w base q D f m g ga fl ml fr mr s A n c load B0 n0 d0) (hb : Below w.heap.size w w') : RSv w0 w' base q D f m g ga fl ml fr mr s A n c load B0 n0 d0 :=
  ⟨h.disk.below hb, h.x.below hb h.x.lt, h.a.below hb h.a.lt, h.l.below hb, h.l0.below hb, h.st.trans (RStep.of_below hb h.size), h.bs⟩
theorem RSv.rstep (h : RSv w0 w base q D f m g ga fl ml fr mr s A n c load B0 n0 d0) (hd : RDiskS w' base q D') (k : RStep base q w w') : RSv w0 w' base q D' f m g ga fl ml fr mr s A n c load B0 n0 d0 :=
  ⟨hd, h.disk.blk h.x k (by decide), h.disk.blk h.a k (by decide), h.l.rstep h.disk k, h.l0.rstep h.disk k, h.st.trans k, h.bs⟩
/-- What Save changes of the rest: a step of the disk, then the slots. -/
def RSaved (base : Nat) (q : RDiskP) (g : Nat) (w w' : World) : Prop := ∃ (w1 : World) (cs : List Value), RStep base q w w1 ∧ Blk w1 g 142 cs ∧ Keep (· = g) w1 w' ∧ Below base w1 w'
theorem RSv.saved (h : RSv w0 w base q D f m g ga fl ml fr mr s A n c load B0 n0 d0) : RSaved base q g w0 w := ⟨w, _, h.st, h.x, Keep.refl _ _, Below.refl _ _⟩
end
section
variable {w w' : World} {base g fl ml fr mr : Nat} {q : RDiskP} {D : DiskV} {s : SlV3} {A : Option Addr} {n c : Nat} {load : List UInt8}
end
end Go.Proofs.YtpmkpckldnnigaaGreat
