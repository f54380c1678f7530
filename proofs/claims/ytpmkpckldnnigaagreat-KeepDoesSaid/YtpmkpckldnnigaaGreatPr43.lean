/- Parts: RefSealA, RAreaA. -/
import Derived.Test.YtpmkpckldnnigaaGreatPr13
import Derived.Test.YtpmkpckldnnigaaGreatPr42
import Derived.Test.YtpmkpckldnnigaaGreatPr05
import Derived.Test.YtpmkpckldnnigaaGreatPr41
namespace Go.Proofs.YtpmkpckldnnigaaGreat
open Go.RowKit

end Go.Proofs.YtpmkpckldnnigaaGreat
namespace Go.Proofs.YtpmkpckldnnigaaGreat
open Go.RowKit

theorem RB.part {w : World} {g o n : Nat} {l : List UInt8} (h : RB w (some ⟨g, o, none⟩) n l) (L m : Nat) (hm : L + m ≤ n) : RB w (some ⟨g, o + L, none⟩) m ((l.drop L).take m) := by
  refine ⟨by rw [List.length_take, List.length_drop, h.1]; omega, fun h0 => ?_⟩
  obtain ⟨b, o', e, hb, hc⟩ := h.2 (by omega)
  injection e with e
  injection e with e1 e2 _
  subst e1 e2
  refine ⟨_, _, rfl, hb, fun i hi => ?_⟩
  have := hc (L + i) (by omega)
  rw [Nat.add_assoc, this]
  unfold byteAt
  simp [List.getD_eq_getElem?_getD, hi]

def RefOpenEnd (y9 : Nat) (K : List UInt8) (q : Bool) (N : Int) (w : World) (e : Ending) (w' : World) : Prop :=
  (q = false ∧ e = .returned (.tuple #[.int .i64 0, .slice none 0 0, .int .i64 53]) ∧ Below w.heap.size w w') ∨
  (q = true ∧ ∃ A c, e = .returned (.tuple #[.int .i64 N, .slice A y9 c, .int .i64 0]) ∧ RB w' A y9 K ∧ Below w.heap.size w w')
theorem RefOpenEnd.no {y9 : Nat} {K : List UInt8} {N : Int} {w w' : World} (h : Below w.heap.size w w') : RefOpenEnd y9 K false N w (.returned (.tuple #[.int .i64 0, .slice none 0 0, .int .i64 53])) w' := .inl ⟨rfl, rfl, h⟩
theorem RefOpenEnd.yes {y9 c : Nat} {A : Option Addr} {K : List UInt8} {N : Int} {w w' : World} (h : Below w.heap.size w w') (ho : RB w' A y9 K) : RefOpenEnd y9 K true N w (.returned (.tuple #[.int .i64 N, .slice A y9 c, .int .i64 0])) w' := .inr ⟨rfl, A, c, rfl, ho, h⟩
/-- The same, and that the load is a part of the sector. -/
def RefOpenEndB (g cc y9 : Nat) (K : List UInt8) (q : Bool) (N : Int) (w : World) (e : Ending) (w' : World) : Prop :=
  (q = false ∧ e = .returned (.tuple #[.int .i64 0, .slice none 0 0, .int .i64 53]) ∧ Below w.heap.size w w') ∨
  (q = true ∧ ∃ o' c, e = .returned (.tuple #[.int .i64 N, .slice (some ⟨g, o', none⟩) y9 c, .int .i64 0]) ∧ RB w' (some ⟨g, o', none⟩) y9 K ∧ Below w.heap.size w w' ∧ y9 ≤ c ∧ c ≤ cc)
theorem RefOpenEndB.no {g cc y9 : Nat} {K : List UInt8} {N : Int} {w w' : World} (h : Below w.heap.size w w') : RefOpenEndB g cc y9 K false N w (.returned (.tuple #[.int .i64 0, .slice none 0 0, .int .i64 53])) w' := .inl ⟨rfl, rfl, h⟩
theorem RefOpenEndB.yes {g cc y9 c o' : Nat} {K : List UInt8} {N : Int} {w w' : World} (h : Below w.heap.size w w') (ho : RB w' (some ⟨g, o', none⟩) y9 K) (h1 : y9 ≤ c) (h2 : c ≤ cc) : RefOpenEndB g cc y9 K true N w (.returned (.tuple #[.int .i64 N, .slice (some ⟨g, o', none⟩) y9 c, .int .i64 0])) w' := .inr ⟨rfl, o', c, rfl, ho, h, h1, h2⟩
end Go.Proofs.YtpmkpckldnnigaaGreat
namespace Go.Proofs.YtpmkpckldnnigaaGreat
open Go.RowKit
set_option linter.unusedVariables false
set_option linter.unusedSimpArgs false
section
variable {w w' : World} {base f m : Nat} {q : RDiskP} {D : DiskV}
end
section
variable {F : Nat → Prop} {w w' : World} {base : Nat} {q : RDiskP} {D D' : DiskV}
/-- What is neither its own, nor of its kinds. -/
theorem RDiskS.apart (r : RDiskS w base q D) (k : Keep F w w') (hF : ∀ g, F g → base ≤ g ∧ g ≠ q.gk ∧ ∃ t cs, Blk w g t cs ∧ t ∉ [124, 156, 4, 3, 5]) : RDiskS w' base q D := by
  obtain ⟨A, c, ck, ci, r⟩ := r
  have no : ∀ {g : Nat} {t : TypeId} {cs : List Value}, Blk w g t cs → t ∈ [124, 156, 4, 3, 5] → ¬ F g := fun {g t cs} hb ht e => by
    obtain ⟨_, _, t', cs', hb', ht'⟩ := hF g e
    by_cases q1 : t = t'
    · subst q1; exact ht' ht
    · exact hb.ne_ hb' q1 rfl
  have hF8 : ∀ g, F g → base ≤ g ∧ ∀ cs, ¬ Blk w g 5 cs := fun g e => ⟨(hF g e).1, fun cs hb => no hb (by decide) e⟩
  refine ⟨A, c, ck, ci, r.ok, r.cons, r.ops, r.st.keep k (no r.st (by decide)), r.kept.keepF k hF8 (fun e => (hF _ e).2.1 rfl), ?_, r.wts.keepF k hF8 (fun g hg e => ?_), r.op.keep k (no r.op (by decide)), r.bd, r.bo⟩
  · obtain ⟨cs, hb⟩ := r.inu.blk (g := q.gi) rfl
    refine ⟨r.inu.1, own_keep r.inu.2 k (fun g e e2 => ?_)⟩
    have : q.gi = g := by simpa [Value.ownBlock] using e
    subst this
    exact no hb (by decide) e2
  · obtain ⟨ps, ho, _⟩ := r.wts
    rcases ho.2.2 with ⟨hv, _⟩ | ⟨g', cap, cur, hv, _, hh, _⟩
    · injection hv with hv; subst hv; cases hg
    · injection hv with hv; subst hv
      simp only [Option.map_some, Option.some.injEq] at hg
      subst hg
      exact no (g := g') (t := 156) (cs := cur.toList) (by unfold Blk; rw [hh]) (by decide) e
theorem BytesAt.rstep {h : SlV} {L : List UInt8} (H : BytesAt w base h L) (hd : RDiskS w base q D) (k : RStep base q w w') : BytesAt w' base h L := by
  have hh : 0 < h.n → ∀ b, h.a.map (·.block) = some b → b < w.heap.size → w'.heap[b]? = w.heap[b]? := fun h0 b hb _ => by
    rcases H.2.2 h0 b hb with q | ⟨cs, q⟩
    · exact k.bel.block b q
    · exact Eq.trans (hd.blk q k (by decide)) (Eq.symm q)
  refine ⟨⟨H.1.1, fun h0 => (H.1.2.sameB k.size (hh h0)) h0⟩, H.2.1, fun h0 g hg => ?_⟩
  rcases H.2.2 h0 g hg with q | ⟨cs, q⟩
  · exact .inl q
  · exact .inr ⟨cs, hd.blk q k (by decide)⟩
end
end Go.Proofs.YtpmkpckldnnigaaGreat
