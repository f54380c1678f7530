/- Parts: BothA. -/
import Derived.Test.YtpmkpckldnnigaaGreatPr40
import Derived.Test.YtpmkpckldnnigaaGreatPr21
namespace Go.Proofs.YtpmkpckldnnigaaGreat
open Go.RowKit
set_option linter.unusedVariables false
set_option linter.unusedSimpArgs false
/-- What the document's disk changes, and nothing else. -/
structure RStep (base : Nat) (q : RDiskP) (w w' : World) : Prop where
  bel : Below base w w'
  tch : ∃ F : Nat → Prop, Keep F w w' ∧ ∀ g t cs, F g → Blk w g t cs → t = 124 ∨ t = 156 ∨ g = q.gk ∨ g = q.gi ∨ g = q.go
section
variable {M : List TypeId} {w w' w'' : World} {base : Nat} {p : DiskP} {q : RDiskP} {A : Option Addr} {c ck ci : Nat} {D D' E : DiskV}
theorem RStep.size (k : RStep base q w w') : w.heap.size ≤ w'.heap.size := k.bel.size
theorem RStep.of_below (hb : Below w.heap.size w w') (hs : base ≤ w.heap.size) : RStep base q w w' := ⟨hb.mono hs, fun _ => False, Keep.of_below hb, fun _ _ _ e => e.elim⟩
theorem RStep.refl (base : Nat) (q : RDiskP) (w : World) : RStep base q w w := ⟨Below.refl _ _, fun _ => False, Keep.refl _ _, fun _ _ _ e => e.elim⟩
theorem RStep.trans (h : RStep base q w w') (k : RStep base q w' w'') : RStep base q w w'' := by
  obtain ⟨F, hF, tF⟩ := h.tch
  obtain ⟨G, hG, tG⟩ := k.tch
  refine ⟨h.bel.trans k.bel, fun g => F g ∨ G g, (hF.mono (fun g _ e => .inl e)).trans hG (fun g _ e => .inr e), fun g t cs hfg hb => ?_⟩
  by_cases hf : F g
  · exact tF g t cs hf hb
  · rcases hfg with e | e
    · exact absurd e hf
    · exact tG g t cs e (hb.keep hF hf)
theorem RDiskS.kinds (h : RDiskS w base q D) : (∃ cs, Blk w q.d 124 cs) ∧ (∃ cs, Blk w q.gk 22 cs) ∧ (∃ cs, Blk w q.gi 4 cs) ∧ ∃ cs, Blk w q.go 3 cs := by
  obtain ⟨A, c, ck, ci, h⟩ := h
  obtain ⟨hs, ho, _⟩ := h.kept
  exact ⟨⟨_, h.st⟩, ho.blk rfl, h.inu.blk rfl, ⟨_, h.op⟩⟩
/-- A block of another kind is as it was. -/
theorem RDiskS.blk (h : RDiskS w base q D) {g : Nat} {t : TypeId} {cs : List Value} (hb : Blk w g t cs) (k : RStep base q w w') (ht : t ∉ [124, 156, 22, 4, 3]) : Blk w' g t cs := by
  obtain ⟨F, hF, tF⟩ := k.tch
  obtain ⟨_, ⟨c1, b1⟩, ⟨c2, b2⟩, ⟨c3, b3⟩⟩ := h.kinds
  simp only [List.mem_cons, List.not_mem_nil, or_false, not_or] at ht
  refine hb.keep hF (fun e => ?_)
  rcases tF g t cs e hb with q1 | q1 | q1 | q1 | q1
  · exact ht.1 q1
  · exact ht.2.1 q1
  · exact hb.ne_ b1 ht.2.2.1 q1
  · exact hb.ne_ b2 ht.2.2.2.1 q1
  · exact hb.ne_ b3 ht.2.2.2.2 q1
theorem RDiskS.bool (h : RDiskS w base q D) {g : Nat} {cs : List Value} (hb : Blk w g 4 cs) (k : RStep base q w w') (hg : q.gi ≠ g) : Blk w' g 4 cs := by
  obtain ⟨F, hF, tF⟩ := k.tch
  obtain ⟨_, ⟨c1, b1⟩, _, ⟨c3, b3⟩⟩ := h.kinds
  refine hb.keep hF (fun e => ?_)
  rcases tF g _ cs e hb with q1 | q1 | q1 | q1 | q1
  · exact absurd q1 (by decide)
  · exact absurd q1 (by decide)
  · exact hb.ne_ b1 (by decide) q1
  · exact hg q1.symm
  · exact hb.ne_ b3 (by decide) q1
theorem DiskS.rstep (h : DiskS w base p E) (r : RDiskS w base q D) (k : RStep base q w w') (h1 : q.gi ≠ p.gi) (h2 : q.gi ≠ p.gm) : DiskS w' base p E := by
  obtain ⟨A, c, h⟩ := h
  refine ⟨A, c, ?_⟩
  obtain ⟨F, hF, tF⟩ := k.tch
  obtain ⟨_, ⟨c1, b1⟩, ⟨c2, b2⟩, ⟨c3, b3⟩⟩ := r.kinds
  have no : ∀ {g : Nat} {t : TypeId} {cs : List Value}, Blk w g t cs → t ∉ [124, 156, 22, 4, 3] → ¬ F g := fun {g t cs} hb ht e => by
    simp only [List.mem_cons, List.not_mem_nil, or_false, not_or] at ht
    rcases tF g t cs e hb with q1 | q1 | q1 | q1 | q1
    · exact ht.1 q1
    · exact ht.2.1 q1
    · exact hb.ne_ b1 ht.2.2.1 q1
    · exact hb.ne_ b2 ht.2.2.2.1 q1
    · exact hb.ne_ b3 ht.2.2.2.2 q1
  have nob : ∀ {g : Nat} {cs : List Value}, Blk w g 4 cs → q.gi ≠ g → ¬ F g := fun {g cs} hb hg e => by
    rcases tF g _ cs e hb with q1 | q1 | q1 | q1 | q1
    · exact absurd q1 (by decide)
    · exact absurd q1 (by decide)
    · exact hb.ne_ b1 (by decide) q1
    · exact hg q1.symm
    · exact hb.ne_ b3 (by decide) q1
  refine h.keep hF (fun g hg e => ?_)
  rcases hg with e1 | e1 | e1 | e1 | e1 | e1 | e1
  · subst e1; exact no h.st (by decide) e
  · subst e1; exact no h.bk (by decide) e
  · subst e1; exact no h.bn (by decide) e
  · subst e1; exact nob h.bi h1 e
  · subst e1; exact nob h.bm h2 e
  · subst e1; exact no h.mt.2 (by decide) e
  · rcases h.wa.2 with ⟨hv, _⟩ | ⟨g', cap, cur, hv, _, hh, _⟩
    · injection hv with hv; subst hv; cases e1
    · injection hv with hv; subst hv
      simp only [Option.map_some, Option.some.injEq] at e1
      subst e1
      exact no (g := g') (t := 154) (cs := cur.toList) (by unfold Blk; rw [hh]) (by decide) e
theorem RDiskS.step (r : RDiskS w base q D) (h : DiskS w base p E) (k : Step M base p w w') (h1 : q.gi ≠ p.gi) (h2 : q.gi ≠ p.gm) (hM : ∀ t ∈ [124, 156, 22, 3, 5], t ∉ 4 :: M) (hb : 4 ∉ M) : RDiskS w' base q D := by
  obtain ⟨A, c, ck, ci, r⟩ := r
  have m1 := hM 124 (by decide)
  have m2 := hM 156 (by decide)
  have m3 := hM 22 (by decide)
  have m4 := hM 3 (by decide)
  have m5 := hM 5 (by decide)
  refine ⟨A, c, ck, ci, r.ok, r.cons, r.ops, h.blk r.st k.tch m1, ?_, ?_, ?_, h.blk r.op k.tch m4, r.bd, r.bo⟩
  · obtain ⟨hs, ho, hk⟩ := r.kept
    exact ⟨hs, h.ow ho k.tch m3, fun j x hx => ⟨(hk j x hx).1, (hk j x hx).2.step h k m5⟩⟩
  · obtain ⟨F, hF, tF⟩ := k.tch
    obtain ⟨cs, hbk⟩ := r.inu.blk (g := q.gi) rfl
    refine ⟨r.inu.1, own_keep r.inu.2 hF (fun g e e2 => ?_)⟩
    have : q.gi = g := by simpa [Value.ownBlock] using e
    subst this
    rcases tF _ _ _ e2 hbk with q1 | q1 | q1
    · exact hb q1
    · exact h1 q1
    · exact h2 q1
  · obtain ⟨ps, ho, hk⟩ := r.wts
    refine ⟨ps, ?_, fun j x hx => by obtain ⟨L, e1, e2, e3⟩ := hk j x hx; exact ⟨L, e1, e2, e3.step h k m5⟩⟩
    obtain ⟨F, hF, tF⟩ := k.tch
    refine ⟨ho.1, own_keep ho.2 hF (fun g hg hf => ?_)⟩
    rcases ho.2.2 with ⟨hv, _⟩ | ⟨g', cap, cur, hv, _, hh, _⟩
    · rw [hv] at hg; cases hg
    · rw [hv] at hg
      have : g' = g := by simpa [Value.ownBlock] using hg
      subst this
      have hbk : Blk w g' 156 cur.toList := by unfold Blk; rw [hh]
      obtain ⟨n1, n2⟩ := h.notBool hbk (by decide)
      rcases tF _ _ _ hf hbk with q1 | q1 | q1
      · exact m2 (List.mem_cons_of_mem _ q1)
      · exact n1 q1
      · exact n2 q1
theorem RDiskS.below (h : RDiskS w base q D) (hb : Below w.heap.size w w') : RDiskS w' base q D := by
  obtain ⟨A, c, ck, ci, h⟩ := h; exact ⟨A, c, ck, ci, h.below hb⟩
end
/-- A disk and the document's, with the same on them. -/
structure Both (w : World) (base : Nat) (p : DiskP) (q : RDiskP) (D : DiskV) : Prop where
  d : DiskS w base p D
  r : RDiskS w base q D
  n1 : q.gi ≠ p.gi
  n2 : q.gi ≠ p.gm
section
variable {w w' : World} {base : Nat} {q : RDiskP} {D : DiskV}
end
end Go.Proofs.YtpmkpckldnnigaaGreat
