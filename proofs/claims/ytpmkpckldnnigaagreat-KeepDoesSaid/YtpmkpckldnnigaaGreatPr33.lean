/- Parts: SlotC. -/
import Derived.Test.YtpmkpckldnnigaaGreatPr28
import Derived.Deep.DeepCutAuto
import Derived.Deep.CutBlock
import Derived.Test.YtpmkpckldnnigaaGreatPr26
namespace Go.Proofs.YtpmkpckldnnigaaGreat
open Go.RowKit
set_option linter.unusedVariables false
set_option linter.unusedSimpArgs false
/-- Which is the newest, as the program says it. -/
def nowI (k : Nat) : Int := if k = 2 then -1 else k
def slotC (ga gb : Nat) (s : SlV3) (B : Option Addr) (n c : Nat) : List Value := [.pointer (some ⟨ga, 0, none⟩), .pointer (some ⟨gb, 0, none⟩), .int .i64 (nowI s.now), .int .i64 s.number, .slice B n c]
def SlotsAt (w : World) (base g ga gb : Nat) (s : SlV3) : Prop := ∃ B n c, Blk w g 209 (slotC ga gb s B n c) ∧ n ≤ c ∧ c ≤ maxLen ∧ BytesAt w base ⟨B, n, c⟩ s.load ∧ s.now ≤ 2 ∧ n ≤ 512
section
variable {w w' : World} {base g ga gb : Nat} {p : DiskP} {D : DiskV} {s : SlV3} {A : Option Addr} {n c : Nat} {load : List UInt8}
theorem SlotsAt.below (h : SlotsAt w base g ga gb s) (hb : Below w.heap.size w w') : SlotsAt w' base g ga gb s := by
  obtain ⟨B, n, c, h1, h2, h3, h4, h5, h6⟩ := h
  exact ⟨B, n, c, h1.below hb h1.lt, h2, h3, h4.below hb, h5, h6⟩
theorem SlotsAt.step (h : SlotsAt w base g ga gb s) (hd : DiskS w base p D) (k : Step mutD base p w w') : SlotsAt w' base g ga gb s := by
  obtain ⟨B, n, c, h1, h2, h3, h4, h5, h6⟩ := h
  exact ⟨B, n, c, hd.blk h1 k.tch (by decide), h2, h3, h4.step hd k (by decide), h5, h6⟩
end
end Go.Proofs.YtpmkpckldnnigaaGreat
namespace Go.Proofs.YtpmkpckldnnigaaGreat
open Go.RowKit
set_option linter.unusedVariables false
set_option linter.unusedSimpArgs false
/-- What opening both leaves. -/
def SOPost (w : World) (base : Nat) (p : DiskP) (ga gb : Nat) (R : DiskV × SlV3 × Int) (e : Ending) (w' : World) : Prop :=
  ∃ P, e = .returned (.tuple #[.pointer P, .int .i64 R.2.2]) ∧ (R.2.2 ≠ 0 → P = none) ∧ (R.2.2 = 0 → ∃ g, P = some ⟨g, 0, none⟩ ∧ w.heap.size ≤ g ∧ SlotsAt w' base g ga gb R.2.1) ∧ DiskS w' base p R.1 ∧ Step mutD base p w w'
section
variable {w w' : World} {base ga gb fl ml fr mr : Nat} {p : DiskP} {D : DiskV}
theorem SOPost.no {z : Int} {s : SlV3} (hz : z ≠ 0) (hd : DiskS w' base p D) (hs : Step mutD base p w w') : SOPost w base p ga gb (D, s, z) (.returned (.tuple #[.pointer none, .int .i64 z])) w' :=
  ⟨none, rfl, fun _ => rfl, fun e => absurd e hz, hd, hs⟩
end
end Go.Proofs.YtpmkpckldnnigaaGreat
namespace Go.Proofs.YtpmkpckldnnigaaGreat
open Go.RowKit
set_option linter.unusedVariables false
set_option linter.unusedSimpArgs false
/-- A disk and two areas of it. -/
structure A10 (w0 w : World) (base : Nat) (p : DiskP) (ga gb : Nat) (D : DiskV) : Prop where
  sd : DiskS w base p D
  a : AreaAt w ga p.d 0 6
  b : AreaAt w gb p.d 6 6
  bel : Below base w0 w
  bs : base ≤ w0.heap.size
section
variable {w w' w0 : World} {base ga gb : Nat} {p : DiskP} {D D' : DiskV}
theorem A10.size (h : A10 w0 w base p ga gb D) : base ≤ w.heap.size := Nat.le_trans h.bs h.bel.size
theorem A10.below (h : A10 w0 w base p ga gb D) (hb : Below w.heap.size w w') : A10 w0 w' base p ga gb D := ⟨h.sd.below hb, Blk.below h.a hb (Blk.lt h.a), Blk.below h.b hb (Blk.lt h.b), h.bel.trans (hb.mono h.size), h.bs⟩
theorem A10.step (h : A10 w0 w base p ga gb D) (st : Step mutD base p w w') (hd : DiskS w' base p D') : A10 w0 w' base p ga gb D' := ⟨hd, h.sd.area h.a st.tch (by decide), h.sd.area h.b st.tch (by decide), h.bel.trans st.bel, h.bs⟩
end
def D10a : DiskV := loadD 12 12 [] 0
end Go.Proofs.YtpmkpckldnnigaaGreat
