/- Parts: Lists. -/
import Derived.Test.YtpmkpckldnnigaaGreatPr26
import Derived.Test.YtpmkpckldnnigaaGreatPr01
namespace Go.Proofs.YtpmkpckldnnigaaGreat
open Go.RowKit Go.WideShapes Go.ChangeShapes Go.Deep Go.Joins
set_option linter.unusedVariables false
set_option linter.unusedSimpArgs false
section
variable {H : Type} {enc : TypeId × Value → H} {P : Program} {w : World} {base b0 : Nat} {held : Bool} {r : Reach} {v : Value} {d : DataW H} {ps : List MemPlace}
end
/-- A row's block is not changed: it is older, or of a type that nothing changes. -/
def Rests (w : World) (base : Nat) (t : TypeId) (A : Option Addr) : Prop := ∀ g, A.map (·.block) = some g → g < base ∨ ∃ cs, Blk w g t cs
def BytesAt (w : World) (base : Nat) (h : SlV) (L : List UInt8) : Prop := RB w h.a h.n L ∧ h.n ≤ maxLen ∧ (0 < h.n → Rests w base 5 h.a)
theorem Row.sameB {w w' : World} {A : Option Addr} {n : Nat} {f : Nat → Value} (h : Row w A n f) (hs : w.heap.size ≤ w'.heap.size) (hF : ∀ b, A.map (·.block) = some b → b < w.heap.size → w'.heap[b]? = w.heap[b]?) : Row w' A n f := fun h0 => by
  obtain ⟨b, o, rfl, hb, hc⟩ := h h0
  refine ⟨b, o, rfl, Nat.lt_of_lt_of_le hb hs, fun i hi => ?_⟩
  rw [← hc i hi]
  have := hF b rfl hb
  simp only [World.cell?, this]
section
variable {M : List TypeId} {w w' : World} {base : Nat} {p : DiskP} {D : DiskV} {t : TypeId} {A : Option Addr} {n : Nat}
theorem Rests.step (h : Rests w base t A) (hd : DiskS w base p D) (k : Step M base p w w') (ht : t ∉ 4 :: M) : Rests w' base t A := fun g hg => by
  rcases h g hg with q | ⟨cs, q⟩
  · exact .inl q
  · exact .inr ⟨cs, hd.blk q k.tch ht⟩
theorem Rests.heap (h : Rests w base t A) (hd : DiskS w base p D) (k : Step M base p w w') (ht : t ∉ 4 :: M) : ∀ b, A.map (·.block) = some b → b < w.heap.size → w'.heap[b]? = w.heap[b]? := fun b hb _ => by
  rcases h b hb with q | ⟨cs, q⟩
  · exact k.bel.block b q
  · exact Eq.trans (hd.blk q k.tch ht) (Eq.symm q)
theorem Row.stepR {f : Nat → Value} (h : Row w A n f) (hr : 0 < n → Rests w base t A) (hd : DiskS w base p D) (k : Step M base p w w') (ht : t ∉ 4 :: M) : Row w' A n f := fun h0 => (h.sameB k.size ((hr h0).heap hd k ht)) h0
theorem BytesAt.step {h : SlV} {L : List UInt8} (H : BytesAt w base h L) (hd : DiskS w base p D) (k : Step M base p w w') (ht : 5 ∉ 4 :: M) : BytesAt w' base h L :=
  ⟨⟨H.1.1, H.1.2.stepR H.2.2 hd k ht⟩, H.2.1, fun h0 => (H.2.2 h0).step hd k ht⟩
theorem BytesAt.below {h : SlV} {L : List UInt8} (H : BytesAt w base h L) (hb : Below w.heap.size w w') : BytesAt w' base h L :=
  ⟨H.1.below hb (Nat.le_refl _), H.2.1, fun h0 g hg => by
    rcases H.2.2 h0 g hg with q | ⟨cs, q⟩
    · exact .inl q
    · exact .inr ⟨cs, q.below hb q.lt⟩⟩
theorem BytesAt.old {h : SlV} {L : List UInt8} {w0 : World} (H : RB w0 h.a h.n L) (hm : h.n ≤ maxLen) (hb : Below w0.heap.size w0 w) (hs : w0.heap.size ≤ base) : BytesAt w base h L :=
  ⟨H.below hb (Nat.le_refl _), hm, fun h0 g hg => by
    obtain ⟨b, o, e, q, _⟩ := H.2 h0
    rw [e] at hg
    simp only [Option.map_some, Option.some.injEq] at hg
    exact .inl (by omega)⟩
theorem Ow.blk {α : Type} {enc : α → Value} {c : Nat} {l : List α} (h : Ow enc w base t A n c l) {g : Nat} (hg : A.map (·.block) = some g) : ∃ cs, Blk w g t cs := by
  rcases h.2.2 with ⟨hv, _⟩ | ⟨g', cap, cur, hv, _, hh, _⟩
  · injection hv with hv; subst hv; cases hg
  · injection hv with hv
    subst hv
    simp only [Option.map_some, Option.some.injEq] at hg
    subst hg
    exact ⟨cur.toList, by unfold Blk; rw [hh]⟩
theorem BytesAt.of_ob {b : Nat} {h : SlV} {L : List UInt8} (H : OB w b 5 h.a h.n h.c L) : BytesAt w base h L :=
  ⟨H.rd.rb, by have := H.cap; omega, fun _ g hg => .inr (H.blk hg)⟩
theorem BytesAt.grown {α : Type} {enc : α → Value} {e : TypeId} {B : Option Addr} {m c : Nat} {l : List α} {h : SlV} {L : List UInt8} (H : BytesAt w base h L) (ho : Ow enc w base e B m c l) (he : e ≠ 5) (hg : w.grownBy w' (B.map (·.block))) : BytesAt w' base h L := by
  have hne : ∀ g, 0 < h.n → h.a.map (·.block) = some g → some g ≠ B.map (·.block) := fun g h0 hg e => by
    rcases H.2.2 h0 g hg with q | ⟨cs, q⟩
    · have := (ho.lt g e.symm).1; omega
    · exact ho.ne_ q he e.symm
  refine ⟨⟨H.1.1, fun h0 => (H.1.2.sameB hg.size (fun b hb hlt => hg.block b hlt (fun e => hne b h0 hb e))) h0⟩, H.2.1, fun h0 g hg' => ?_⟩
  rcases H.2.2 h0 g hg' with q | ⟨cs, q⟩
  · exact .inl q
  · exact .inr ⟨cs, q.grown hg (fun e => hne g h0 hg' e.symm)⟩
theorem Rd.take_ {α : Type} {enc : α → Value} {l : List α} {m : Nat} (h : Rd enc w A n l) (hm : m ≤ n) : Rd enc w A m (l.take m) :=
  ⟨by rw [List.length_take, h.1]; omega, (h.2.take hm).congr fun i hi => by
    show (l.map enc).getD i undef = ((l.take m).map enc).getD i undef
    rw [List.getD_eq_getElem?_getD, List.getD_eq_getElem?_getD, List.map_take, List.getElem?_take, if_pos hi]⟩
end
/-- What is sure, and all: two slices of slices of bytes, the first one the front of the other; they may share a row. -/
def Lists (w : World) (base : Nat) (sB : Option Addr) (sN : Nat) (aB : Option Addr) (aN ac : Nat) (sure all : List (List UInt8)) : Prop :=
  all.length = aN ∧ sure.length = sN ∧ all.take sN = sure ∧ sN ≤ aN ∧ ∃ hs : List SlV, Ow slV w base 22 aB aN ac hs ∧ (∀ (k : Nat) (h : SlV) (L : List UInt8), hs[k]? = some h → all[k]? = some L → BytesAt w base h L) ∧ Rd slV w sB sN (hs.take sN) ∧
    (0 < sN → ∀ g, sB.map (·.block) = some g → sB = aB ∨ (aB.map (·.block) ≠ some g ∧ ∃ cs, Blk w g 22 cs))
section
variable {M : List TypeId} {w w' : World} {base : Nat} {p : DiskP} {D : DiskV} {sB aB : Option Addr} {sN aN ac : Nat} {sure all : List (List UInt8)}
theorem Lists.nil (w : World) (base : Nat) : Lists w base none 0 none 0 0 [] [] := ⟨rfl, rfl, rfl, Nat.le_refl _, [], Ow.nil _ _ _ _, fun k h L h1 => by simp at h1, Rd.nil _ _ _, fun h => absurd h (by omega)⟩
theorem Lists.step (H : Lists w base sB sN aB aN ac sure all) (hd : DiskS w base p D) (k : Step M base p w w') (h1 : 22 ∉ 4 :: M) (h2 : 5 ∉ 4 :: M) : Lists w' base sB sN aB aN ac sure all := by
  obtain ⟨a1, a2, a3, a4, hs, ho, hi, hr, hx⟩ := H
  have ho' := hd.ow ho k.tch h1
  refine ⟨a1, a2, a3, a4, hs, ho', fun k' h L q1 q2 => (hi k' h L q1 q2).step hd k h2, ⟨hr.1, fun h0 => ?_⟩, fun h0 g hg => ?_⟩
  · obtain ⟨b, o, e, _⟩ := hr.2 h0
    have hg : sB.map (·.block) = some b := by rw [e]; rfl
    rcases hx h0 b hg with q | ⟨_, cs, q⟩
    · rw [q]; exact (ho'.rd.take_ a4).2 h0
    · exact (hr.2.sameB k.size (fun b' hb' _ => by
        rw [hg] at hb'
        injection hb' with hb'
        subst hb'
        exact Eq.trans (hd.blk q k.tch h1) (Eq.symm q))) h0
  · rcases hx h0 g hg with q | ⟨q1, cs, q⟩
    · exact .inl q
    · exact .inr ⟨q1, cs, hd.blk q k.tch h1⟩
theorem Lists.below (H : Lists w base sB sN aB aN ac sure all) (hb : Below w.heap.size w w') : Lists w' base sB sN aB aN ac sure all := by
  obtain ⟨a1, a2, a3, a4, hs, ho, hi, hr, hx⟩ := H
  refine ⟨a1, a2, a3, a4, hs, ho.below hb (Nat.le_refl _), fun k' h L q1 q2 => (hi k' h L q1 q2).below hb, hr.below hb (Nat.le_refl _), fun h0 g hg => ?_⟩
  rcases hx h0 g hg with q | ⟨q1, cs, q⟩
  · exact .inl q
  · exact .inr ⟨q1, cs, q.below hb q.lt⟩
theorem Lists.same (H : Lists w base sB sN aB aN ac sure all) : Lists w base aB aN aB aN ac all all := by
  obtain ⟨a1, a2, a3, a4, hs, ho, hi, hr, hx⟩ := H
  exact ⟨a1, a1, by rw [← a1, List.take_length], Nat.le_refl _, hs, ho, hi, ho.rd.take_ (Nat.le_refl _), fun _ _ _ => .inl rfl⟩
theorem Lists.cap (H : Lists w base sB sN aB aN ac sure all) : aN ≤ ac ∧ ac ≤ maxLen ∧ sN ≤ aN ∧ sure.length = sN ∧ all.length = aN := by
  obtain ⟨a1, a2, a3, a4, hs, ho, hi, hr, hx⟩ := H
  have := ho.cap
  exact ⟨this.1, this.2, a4, a2, a1⟩
theorem Lists.got {b : Nat} (H : LsOw w b aB aN ac all) (hb : base ≤ b) : Lists w base aB aN aB aN ac all all := by
  obtain ⟨hl, hs, ho, hk⟩ := H
  exact ⟨hl, hl, by rw [← hl, List.take_length], Nat.le_refl _, hs, ho.rebase hb, fun k h L q1 q2 => by obtain ⟨b', q⟩ := hk k h L q1 q2; exact BytesAt.of_ob q, ho.rd.take_ (Nat.le_refl _), fun _ _ _ => .inl rfl⟩
end
end Go.Proofs.YtpmkpckldnnigaaGreat
