/- Parts: Do10, OneS, DoW. -/
import Derived.Test.YtpmkpckldnnigaaGreatPr15
import Derived.Test.YtpmkpckldnnigaaGreatPr44
import Derived.Test.YtpmkpckldnnigaaGreatPr33
import Derived.Test.YtpmkpckldnnigaaGreatPr03
import Derived.Test.YtpmkpckldnnigaaGreatPr35
namespace Go.Proofs.YtpmkpckldnnigaaGreat
open Go.RowKit Go.WideShapes Go.ChangeShapes Go.Deep Go.Joins
set_option linter.unusedVariables false
set_option linter.unusedSimpArgs false
section
variable {H : Type} {enc : TypeId × Value → H} {w : World} {base b0 : Nat} {held : Bool} {r : Reach} {v : Value} {d : DataW H} {ps : List MemPlace}
end
end Go.Proofs.YtpmkpckldnnigaaGreat
namespace Go.Proofs.YtpmkpckldnnigaaGreat
open Go.RowKit
set_option linter.unusedVariables false
set_option linter.unusedSimpArgs false
section
variable {w w' w0 : World} {base ga gb gk g1 g2 : Nat} {p : DiskP} {q : RDiskP} {D E D' E' : DiskV} {P1 P2 : Option Addr} {s : SlV3}
/-- The program's slots over a step of the document's disk. -/
theorem SlotsAt.rstep (h : SlotsAt w base g1 ga gb s) (r : RDiskS w base q D) (k : RStep base q w w') : SlotsAt w' base g1 ga gb s := by
  obtain ⟨B, n, c, h1, h2, h3, h4, h5, h6⟩ := h
  exact ⟨B, n, c, r.blk h1 k (by decide), h2, h3, h4.rstep r k, h5, h6⟩
theorem SlotsAt.saved (h : SlotsAt w base g1 ga gb s) (r : RDiskS w base q D) (hg : base ≤ g2) (k : RSaved base q g2 w w') : SlotsAt w' base g1 ga gb s := by
  obtain ⟨w1, cs, kr, hb, kk, bb⟩ := k
  obtain ⟨B, n, c, h1, h2, h3, h4, h5, h6⟩ := h.rstep r kr
  refine ⟨B, n, c, h1.keep kk (h1.ne_ hb (by decide)), h2, h3, h4.keepF kk (fun g e => ?_), h5, h6⟩
  subst e
  exact ⟨hg, not_u8 hb (by decide)⟩
/-- The document's slots over a step of the program's. -/
theorem RSlotsAt.step {M : List TypeId} {fl ml fr mr : Nat} (h : RSlotsAt w base g2 q fl ml fr mr s) (d : DiskS w base p E) (k : Step M base p w w') (h1 : 142 ∉ 4 :: M) (h2 : 5 ∉ 4 :: M) : RSlotsAt w' base g2 q fl ml fr mr s := by
  obtain ⟨B, n, c, x1, x2, x3, x4, x5⟩ := h
  exact ⟨B, n, c, d.blk x1 k.tch h1, x2, x3, x4.step d k h2, x5⟩
/-- What holds of slots that were opened. -/
def SOk (s : SlV3) : Prop := (-9223372036854775808 ≤ s.number ∧ s.number ≤ 9223372036854775807) ∧ (s.now = 2 → s.number = 0 ∧ s.load = [])
section
variable {gx : Nat} {x : DoV} {B : Option Addr} {k d : Nat} {rs s' : SlV3}
end
end
end Go.Proofs.YtpmkpckldnnigaaGreat
namespace Go.Proofs.YtpmkpckldnnigaaGreat
open Go.RowKit Go.WideShapes Go.ChangeShapes Go.Deep Go.Joins
set_option linter.unusedVariables false
set_option linter.unusedSimpArgs false
/-- What is done to a feed or to a sink. -/
structure DoW where
  kind : Int
  n : Int
  l : List Int
  b : List UInt8
def DosW (w : World) (A : Option Addr) (n : Nat) (l : List DoW) : Prop :=
  l.length = n ∧ ∀ k x, l[k]? = some x → ∃ b o C q e B m c, A = some ⟨b, o, none⟩ ∧ b < w.heap.size ∧ w.cell? ⟨b, o + k * 4 + 0, none⟩ = some (.int .i64 x.kind) ∧ w.cell? ⟨b, o + k * 4 + 1, none⟩ = some (.int .i64 x.n) ∧ w.cell? ⟨b, o + k * 4 + 2, none⟩ = some (.slice C q e) ∧ w.cell? ⟨b, o + k * 4 + 3, none⟩ = some (.slice B m c) ∧
    RI w C q x.l ∧ q ≤ e ∧ e ≤ maxLen ∧ RB w B m x.b ∧ m ≤ c ∧ c ≤ maxLen ∧ (-9223372036854775808 ≤ x.kind ∧ x.kind ≤ 9223372036854775807) ∧ (-9223372036854775808 ≤ x.n ∧ x.n ≤ 9223372036854775807) ∧ IntOk x.l
theorem DosW.below {w w' : World} {A : Option Addr} {n B0 : Nat} {l : List DoW} (h : DosW w A n l) (hb : Below B0 w w') (hB : w.heap.size ≤ B0) : DosW w' A n l := by
  refine ⟨h.1, fun k x hx => ?_⟩
  obtain ⟨b, o, C, q, e, B, m, c, hA, hlt, c0, c1, c2, c3, hi, h1, h2, hr, rest⟩ := h.2 k x hx
  have hs := hb.size
  have hc : ∀ j, w'.cell? ⟨b, j, none⟩ = w.cell? ⟨b, j, none⟩ := fun j => hb.cell (p := ⟨b, j, none⟩) (by show b < B0; omega)
  exact ⟨b, o, C, q, e, B, m, c, hA, by omega, by rw [hc]; exact c0, by rw [hc]; exact c1, by rw [hc]; exact c2, by rw [hc]; exact c3, hi.below hb hB, h1, h2, hr.below hb hB, rest⟩
theorem intOk_of {l : List Int} (h : ∀ z ∈ l, -9223372036854775808 ≤ z ∧ z ≤ 9223372036854775807) : IntOk l := fun i hi => by
  unfold intAt
  rw [List.getD_eq_getElem?_getD, List.getElem?_eq_getElem hi]
  exact h _ (List.getElem_mem hi)
end Go.Proofs.YtpmkpckldnnigaaGreat
