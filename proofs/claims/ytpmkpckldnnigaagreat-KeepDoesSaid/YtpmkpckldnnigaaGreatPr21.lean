/- Parts: Step. -/
import Derived.Test.YtpmkpckldnnigaaGreatPr20
namespace Go.Proofs.YtpmkpckldnnigaaGreat
open Go.RowKit
set_option linter.unusedVariables false
set_option linter.unusedSimpArgs false
/-- Types of blocks that what is done to a disk changes. -/
def mutD : List TypeId := [151, 152, 282, 154]
/-- Only blocks of those types were changed, and the two rows of bools. -/
def Touch (M : List TypeId) (p : DiskP) (w w' : World) : Prop := ∃ F : Nat → Prop, Keep F w w' ∧ ∀ g t cs, F g → Blk w g t cs → t ∈ M ∨ g = p.gi ∨ g = p.gm
structure Step (M : List TypeId) (base : Nat) (p : DiskP) (w w' : World) : Prop where
  bel : Below base w w'
  tch : Touch M p w w'
section
variable {M N : List TypeId} {w w' w'' : World} {base : Nat} {p : DiskP} {A : Option Addr} {c : Nat} {D D' : DiskV}
theorem Touch.of_below (hb : Below w.heap.size w w') : Touch M p w w' := ⟨fun _ => False, Keep.of_below hb, fun _ _ _ h => h.elim⟩
theorem Touch.refl (M : List TypeId) (p : DiskP) (w : World) : Touch M p w w := Touch.of_below (Below.refl _ _)
theorem Touch.trans (h : Touch M p w w') (k : Touch M p w' w'') : Touch M p w w'' := by
  obtain ⟨F, hF, tF⟩ := h
  obtain ⟨G, hG, tG⟩ := k
  refine ⟨fun g => F g ∨ G g, (hF.mono (fun g _ e => .inl e)).trans hG (fun g _ e => .inr e), fun g t cs hfg hb => ?_⟩
  by_cases hf : F g
  · exact tF g t cs hf hb
  · rcases hfg with e | e
    · exact absurd e hf
    · exact tG g t cs e (hb.keep hF hf)
theorem Touch.one {g : Nat} {t : TypeId} {cs : List Value} (hg : w.grownBy w' (some g)) (hb : Blk w g t cs) (ht : t ∈ M) : Touch M p w w' := ⟨(· = g), Keep.one hg, fun g' t' cs' e hb' => by
  subst e
  by_cases q : t' = t
  · subst q; exact .inl ht
  · exact absurd rfl (hb'.ne_ hb q)⟩
theorem Blk.touch {g : Nat} {t : TypeId} {cs : List Value} (h : Blk w g t cs) (k : Touch M p w w') (ht : t ∉ M) (h1 : g ≠ p.gi) (h2 : g ≠ p.gm) : Blk w' g t cs := by
  obtain ⟨F, hF, tF⟩ := k
  refine h.keep hF (fun e => ?_)
  rcases tF g t cs e h with q | q | q
  · exact ht q
  · exact h1 q
  · exact h2 q
/-- A block of a type that is not bool. -/
theorem DiskS.notBool (h : DiskS w base p D) {g : Nat} {t : TypeId} {cs : List Value} (hb : Blk w g t cs) (ht : t ≠ 4) : g ≠ p.gi ∧ g ≠ p.gm := by
  obtain ⟨A, c, h⟩ := h
  exact ⟨hb.ne_ h.bi ht, hb.ne_ h.bm ht⟩
theorem DiskS.blk (h : DiskS w base p D) {g : Nat} {t : TypeId} {cs : List Value} (hb : Blk w g t cs) (k : Touch M p w w') (ht : t ∉ 4 :: M) : Blk w' g t cs := by
  obtain ⟨h1, h2⟩ := h.notBool hb (fun e => ht (by rw [e]; exact List.mem_cons_self ..))
  exact hb.touch k (fun e => ht (List.mem_cons_of_mem _ e)) h1 h2
theorem DiskS.area (h : DiskS w base p D) {ga d f m : Nat} (ha : AreaAt w ga d f m) (k : Touch M p w w') (ht : 217 ∉ 4 :: M) : AreaAt w' ga d f m := h.blk ha k ht
theorem DiskS.ow {α : Type} {enc : α → Value} {b n d : Nat} {e : TypeId} {B : Option Addr} {l : List α} (h : DiskS w base p D) (ho : Ow enc w b e B n d l) (k : Touch M p w w') (ht : e ∉ 4 :: M) : Ow enc w' b e B n d l := by
  obtain ⟨F, hF, tF⟩ := k
  refine ⟨ho.1, own_keep ho.2 hF (fun g hg hf => ?_)⟩
  rcases ho.2.2 with ⟨hv, _⟩ | ⟨g', cap, cur, hv, _, hh, _⟩
  · rw [hv] at hg; cases hg
  · rw [hv] at hg
    have : g' = g := by simpa [Value.ownBlock] using hg
    subst this
    have hb : Blk w g' e cur.toList := by unfold Blk; rw [hh]
    obtain ⟨h1, h2⟩ := h.notBool hb (fun e => ht (by rw [e]; exact List.mem_cons_self ..))
    rcases tF _ _ _ hf hb with q | q | q
    · exact ht (List.mem_cons_of_mem _ q)
    · exact h1 q
    · exact h2 q
theorem Touch.mono (h : Touch M p w w') (hs : ∀ t, t ∈ M → t ∈ N) : Touch N p w w' := by
  obtain ⟨F, hF, tF⟩ := h
  exact ⟨F, hF, fun g t cs e hb => by rcases tF g t cs e hb with q | q; exact .inl (hs t q); exact .inr q⟩
theorem Step.mono (h : Step M base p w w') (hs : ∀ t, t ∈ M → t ∈ N) : Step N base p w w' := ⟨h.bel, h.tch.mono hs⟩
theorem Step.refl (M : List TypeId) (base : Nat) (p : DiskP) (w : World) : Step M base p w w := ⟨Below.refl _ _, Touch.refl _ _ _⟩
theorem Step.of_below (hb : Below w.heap.size w w') (hs : base ≤ w.heap.size) : Step M base p w w' := ⟨hb.mono hs, Touch.of_below hb⟩
theorem Step.trans (h : Step M base p w w') (k : Step M base p w' w'') : Step M base p w w'' := ⟨h.bel.trans k.bel, h.tch.trans k.tch⟩
theorem Step.one {g : Nat} {t : TypeId} {cs : List Value} (hg : w.grownBy w' (some g)) (hb : Blk w g t cs) (ht : t ∈ M) (hs : base ≤ g) (hw : base ≤ w.heap.size) : Step M base p w w' := ⟨below_of_only (Below.refl _ _) hg hw hs, Touch.one hg hb ht⟩
theorem Step.size (h : Step M base p w w') : w.heap.size ≤ w'.heap.size := h.bel.size
end
section
variable {w : World} {base ga f m : Nat} {p : DiskP} {D : DiskV}
end
end Go.Proofs.YtpmkpckldnnigaaGreat
