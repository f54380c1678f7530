/- Parts: KeepR. -/
import Derived.Test.YtpmkpckldnnigaaGreatPr36
import Derived.Test.YtpmkpckldnnigaaGreatPr44
import Derived.Test.YtpmkpckldnnigaaGreatPr45
import Derived.Test.YtpmkpckldnnigaaGreatPr46
namespace Go.Proofs.YtpmkpckldnnigaaGreat
open Go.RowKit
set_option linter.unusedVariables false
set_option linter.unusedSimpArgs false
/-- A keep of the document's: cells as the program's keep, over the document's slots; its row of ints does not lie in X. -/
def RKeepAt (X : Nat → Prop) (w : World) (base g : Nat) (q : RDiskP) (x : PA) (p : PV) (hash : Int) (k : KpV) : Prop :=
  ∃ gs A n c, Blk w g 61 (keepC gs x p hash k.last A n c k.has) ∧ base ≤ gs ∧ base ≤ g ∧ RSlotsAt w base gs q 0 6 6 6 k.s ∧ IntsAt w base A n k.last.cells ∧ n ≤ c ∧ c ≤ maxLen ∧ (0 < n → ∀ b, A.map (·.block) = some b → ¬ X b)
section
variable {w w' : World} {base g : Nat} {q : RDiskP} {D : DiskV} {x : PA} {p : PV} {hash : Int} {k : KpV} {X : Nat → Prop}
theorem IntsAt.keepF {A : Option Addr} {n : Nat} {F : Nat → Prop} {l : List Int} (H : IntsAt w base A n l) (k : Keep F w w') (hF : ∀ g, F g → base ≤ g ∧ ∀ cs, ¬ Blk w g 3 cs) : IntsAt w' base A n l := by
  have hne : ∀ g, 0 < n → A.map (·.block) = some g → ¬ F g := fun g h0 hg e => by
    obtain ⟨q1, q2⟩ := hF g e
    rcases H.2.2 h0 g hg with q | ⟨cs, q⟩
    · omega
    · exact q2 cs q
  refine ⟨⟨H.1.1, fun h0 => (H.1.2.sameB k.size (fun b hb hlt => k.block b hlt (hne b h0 hb))) h0⟩, H.2.1, fun h0 g hg' => ?_⟩
  rcases H.2.2 h0 g hg' with q | ⟨cs, q⟩
  · exact .inl q
  · exact .inr ⟨cs, q.keep k (hne g h0 hg')⟩
theorem not_int {t : TypeId} {cs : List Value} {g : Nat} (hb : Blk w g t cs) (ht : t ≠ 3) : ∀ cs', ¬ Blk w g 3 cs' := fun cs' h => h.ne_ hb (fun e => ht e.symm) rfl
theorem RKeepAt.below (h : RKeepAt X w base g q x p hash k) (hb : Below w.heap.size w w') : RKeepAt X w' base g q x p hash k := by
  obtain ⟨gs, A, n, c, b1, b2, b3, b4, b5, b6, b7, b8⟩ := h
  exact ⟨gs, A, n, c, b1.below hb b1.lt, b2, b3, b4.below hb, b5.below hb, b6, b7, b8⟩
theorem rdisk_ints (h : RDiskS w base q D) {g : Nat} {cs : List Value} (hb : Blk w g 3 cs) (k : RStep base q w w') (hg : g ≠ q.go) : Blk w' g 3 cs := by
  obtain ⟨F, hF, tF⟩ := k.tch
  obtain ⟨_, ⟨c1, b1⟩, ⟨c2, b2⟩, _⟩ := h.kinds
  refine hb.keep hF (fun e => ?_)
  rcases tF g _ cs e hb with q1 | q1 | q1 | q1 | q1
  · exact absurd q1 (by decide)
  · exact absurd q1 (by decide)
  · exact hb.ne_ b1 (by decide) q1
  · exact hb.ne_ b2 (by decide) q1
  · exact hg q1
theorem IntsAt.rstepQ {A : Option Addr} {n : Nat} {l : List Int} (H : IntsAt w base A n l) (hne : 0 < n → ∀ b, A.map (·.block) = some b → b ≠ q.go) (hd : RDiskS w base q D) (k : RStep base q w w') : IntsAt w' base A n l := by
  refine ⟨⟨H.1.1, fun h0 => (H.1.2.sameB k.size (fun b e _ => ?_)) h0⟩, H.2.1, fun h0 b e => ?_⟩
  · rcases H.2.2 (by assumption) b e with r | ⟨cs, r⟩
    · exact k.bel.block b r
    · exact Eq.trans (rdisk_ints hd r k (hne (by assumption) b e)) (Eq.symm r)
  · rcases H.2.2 h0 b e with r | ⟨cs, r⟩
    · exact .inl r
    · exact .inr ⟨cs, rdisk_ints hd r k (hne h0 b e)⟩
theorem RKeepAt.rstep (h : RKeepAt (· = q.go) w base g q x p hash k) (hd : RDiskS w base q D) (t : RStep base q w w') : RKeepAt (· = q.go) w' base g q x p hash k := by
  obtain ⟨gs, A, n, c, b1, b2, b3, b4, b5, b6, b7, b8⟩ := h
  exact ⟨gs, A, n, c, hd.blk b1 t (by decide), b2, b3, b4.rstep hd t, b5.rstepQ b8 hd t, b6, b7, b8⟩
theorem SlotsAt.rstepK {gs ga gb : Nat} {s : SlV3} (h : SlotsAt w base gs ga gb s) (hd : RDiskS w base q D) (t : RStep base q w w') : SlotsAt w' base gs ga gb s := by
  obtain ⟨B, n, c, h1, h2, h3, h4, h5, h6⟩ := h
  exact ⟨B, n, c, hd.blk h1 t (by decide), h2, h3, h4.rstep hd t, h5, h6⟩
theorem KeepAtX.rstep {ga gb : Nat} (h : KeepAtX (· = q.go) w base g ga gb x p hash k) (hd : RDiskS w base q D) (t : RStep base q w w') (hP : ProgAt w' base x p) : KeepAtX (· = q.go) w' base g ga gb x p hash k := by
  obtain ⟨gs, A, n, c, b1, b2, b3, b4, b5, b6, b7, b8, b9⟩ := h
  exact ⟨gs, A, n, c, hd.blk b1 t (by decide), b2, b3, b4.rstepK hd t, b5.rstepQ (fun _ b e => b9 b e) hd t, b6, b7, hP, b9⟩
/-- The document's keep over a step of the program's. -/
theorem RKeepAt.step {M : List TypeId} {pd : DiskP} {E : DiskV} (h : RKeepAt X w base g q x p hash k) (d : DiskS w base pd E) (t : Step M base pd w w') (h1 : 61 ∉ 4 :: M) (h2 : 142 ∉ 4 :: M) (h3 : 5 ∉ 4 :: M) (h4 : 3 ∉ 4 :: M) : RKeepAt X w' base g q x p hash k := by
  obtain ⟨gs, A, n, c, b1, b2, b3, b4, b5, b6, b7, b8⟩ := h
  obtain ⟨B, m, e, x1, x2, x3, x4, x5⟩ := b4
  exact ⟨gs, A, n, c, d.blk b1 t.tch h1, b2, b3, ⟨B, m, e, d.blk x1 t.tch h2, x2, x3, x4.step d t h3, x5⟩, b5.step d t h4, b6, b7, b8⟩
end
end Go.Proofs.YtpmkpckldnnigaaGreat
